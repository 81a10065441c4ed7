/- CompileTrees: a part of the proof (J0 J1 J2 J3 K0 K1 K2 K3 K4). No conditions. -/
import Derived.Test.YtfkgfibmhhlemaaQI
import Derived.BigQuiet
import Derived.Laws.Externs
import Derived.Deep.RegionWith
import Derived.OwnWalk
namespace Go.Proofs.Ytfkgfibmhhlemaa
open Go.RowKit Go.Maps Go.WideMaps
/-- instructions in a row -/
inductive Insn : List Value → Prop where
  | nil : Insn []
  | cons (op arg : Int) (num : Nat) (tx : ByteArray) {l : List Value} (h : Insn l) : Insn (ins op arg (.float .f64 num) tx ++ l)
theorem Insn.append {a b : List Value} (ha : Insn a) (hb : Insn b) : Insn (a ++ b) := by
  induction ha with
  | nil => exact hb
  | cons op arg num tx _ ih => rw [List.append_assoc]; exact .cons op arg num tx ih
theorem insn_ins (op arg : Int) (num : Nat) (tx : ByteArray) : Insn (ins op arg (.float .f64 num) tx) := by
  have := Insn.cons op arg num tx .nil
  rwa [List.append_nil] at this
theorem Insn.at {l : List Value} (h : Insn l) : ∀ j, j * 4 < l.length → ∃ op arg num tx, l[j * 4]? = some (.int .i64 op) ∧ l[j * 4 + 1]? = some (.int .i64 arg) ∧ l[j * 4 + 2]? = some (.float .f64 num) ∧ l[j * 4 + 3]? = some (.string tx) := by
  induction h with
  | nil => intro j hj; simp at hj
  | cons op arg num tx _ ih =>
    intro j hj
    cases j with
    | zero => exact ⟨op, arg, num, tx, rfl, rfl, rfl, rfl⟩
    | succ j =>
      obtain ⟨op', arg', num', tx', h0, h1, h2, h3⟩ := ih j (by simp at hj; omega)
      refine ⟨op', arg', num', tx', ?_, ?_, ?_, ?_⟩
      all_goals
        rw [List.getElem?_append_right (by simp; omega)]
        first | (rw [← h0]; congr 1; simp; omega) | (rw [← h1]; congr 1; simp; omega) | (rw [← h2]; congr 1; simp; omega) | (rw [← h3]; congr 1; simp; omega)
theorem Insn.len {l : List Value} (h : Insn l) : l.length = cnt l * 4 := by
  have : l.length % 4 = 0 := by
    induction h with
    | nil => rfl
    | cons op arg num tx _ ih => rw [List.length_append]; simp; omega
  unfold cnt; omega
theorem bits_run (x : Nat) (w : World) : (callFunc 29 #[.float .f64 x]).run Try.prog w = .ok (.value (.int .u64 x)) w := by
  rw [run_callFunc_extern (e := Extern.MathFloatBits.float64bits) Try.func29 (by kernel_rfl) (by kernel_rfl) (by kernel_rfl) (by kernel_rfl)]
  rfl
set_option maxRecDepth 100000 in
set_option maxHeartbeats 400000 in
theorem same_self (x : Nat) (w : World) : Calls Try.prog 22 #[.float .f64 x, .float .f64 x] w fun e w' => e = .returned (.bool true) ∧ w' = w := by
  have hb := bits_run
  go_enter Try.func22, Try.ntmps22
  go_wp2
  all_goals
    go_ret
    exact ⟨rfl, rfl⟩
/-- the same but for what was drawn -/
structure Still (w w' : World) : Prop where
  heap : w'.heap = w.heap
  os : w'.os = w.os
  tape : w'.tape = w.tape
  output : w'.output = w.output
theorem Still.refl (w : World) : Still w w := ⟨rfl, rfl, rfl, rfl⟩
theorem Still.drew {w w' : World} (h : Still w w') : Still w w'.drew := ⟨h.heap, h.os, h.tape, h.output⟩
theorem Still.drewN {w w' : World} (h : Still w w') (n : Nat) : Still w (w'.drewN n) := ⟨h.heap, h.os, h.tape, h.output⟩
theorem Still.kp {w w' : World} (h : Still w w') : Kp (fun _ => False) w w' := ⟨h.os, h.tape, h.output, by rw [h.heap]; exact Nat.le_refl _, fun k _ _ => by rw [h.heap]⟩
theorem Still.cell {w w' : World} (h : Still w w') (a : Addr) : w'.cell? a = w.cell? a := World.cell?_of_block (by rw [h.heap])
theorem own_at {w : World} {B g cap n : Nat} {code : List Value} (h : w.ownsRow B 43 4 (.slice (some ⟨g, 0, none⟩) n cap) n code) {k : Nat} {v : Value} (hk : code[k]? = some v) : w.cell? ⟨g, k, none⟩ = some v := by
  have := h.cells (g := g) rfl k v hk
  rw [show (⟨g, 0, none⟩ : Addr).add k = ⟨g, k, none⟩ by cases k <;> simp [Addr.add]] at this
  exact this
set_option maxRecDepth 100000 in
set_option maxHeartbeats 1600000 in
theorem sameins_any (g1 c1 g2 c2 n B1 B2 : Nat) (code : List Value) (w : World) (h1 : w.ownsRow B1 43 4 (.slice (some ⟨g1, 0, none⟩) n c1) n code) (h2 : w.ownsRow B2 43 4 (.slice (some ⟨g2, 0, none⟩) n c2) n code) (hi : Insn code) (hn : n ≤ 9223372036854775807) :
    Calls Try.prog 11 #[.slice (some ⟨g1, 0, none⟩) n c1, .slice (some ⟨g2, 0, none⟩) n c2] w fun e w' => e = .returned (.bool true) ∧ Still w w' := by
  have hlen : code.length = n * 4 := h1.1
  go_enter Try.func11, Try.ntmps11
  go_wp2
  go_loopw [5] (fun i wr => ∃ (k : Nat), k ≤ n ∧ i = .int .i64 k ∧ Still w wr) (fun i _ => n - (intOf i).toNat)
  case atStart => exact ⟨0, Nat.zero_le _, rfl, Still.refl w⟩
  case round =>
    obtain ⟨k, hkl, rfl, hs⟩ := hrel
    by_cases hlt : k < n
    · obtain ⟨op, arg, num, tx, e0, e1, e2, e3⟩ := hi.at k (by omega)
      have a0 := (hs.cell _).trans (own_at h1 e0)
      have a1 := (hs.cell _).trans (own_at h1 e1)
      have a2 := (hs.cell _).trans (own_at h1 e2)
      have a3 := (hs.cell _).trans (own_at h1 e3)
      have b0 := (hs.cell _).trans (own_at h2 e0)
      have b1 := (hs.cell _).trans (own_at h2 e1)
      have b2 := (hs.cell _).trans (own_at h2 e2)
      have b3 := (hs.cell _).trans (own_at h2 e3)
      have hsame := same_self num
      clear e0 e1 e2 e3 h1 h2 hi
      go_wp2_with fail
      go_quiet (first | (go_at_call 22; exact Calls.quiet_of_same (hsame _)))
      go_wp2_with fail
      go_roundw
      case rel => first | exact ⟨k + 1, by omega, by go_num, hs.drewN _⟩ | ((repeat apply Exists.intro); exact ⟨⟨k + 1, by omega, by go_num, hs.drewN _⟩, rfl⟩)
      case measure => simp [intOf]; omega
    · obtain rfl : k = n := by omega
      clear h1 h2 hi
      go_wp2_with fail
      go_ret
      exact ⟨rfl, hs⟩
end Go.Proofs.Ytfkgfibmhhlemaa
namespace Go.Proofs.Ytfkgfibmhhlemaa
open Go.RowKit Go.Maps Go.WideMaps
set_option maxRecDepth 100000 in
set_option maxHeartbeats 400000 in
theorem sameins_nil (w : World) : Calls Try.prog 11 #[.slice none 0 0, .slice none 0 0] w fun e w' => e = .returned (.bool true) ∧ w' = w := by
  go_enter Try.func11, Try.ntmps11
  go_wp2
  go_loopw [5] (fun i wr => i = .int .i64 0 ∧ wr = w) (fun _ _ => 0)
  case atStart => exact ⟨rfl, rfl⟩
  case round =>
    obtain ⟨rfl, rfl⟩ := hrel
    go_wp2_with fail
    go_ret
    exact ⟨rfl, rfl⟩
/-- only block g has turned -/
structure Spoilt (w : World) (g n : Nat) (w' : World) : Prop where
  kp : Kp (fun k => k = g) w w'
  size : w'.heap.size = w.heap.size
  cells : ∀ j, j < n → ∃ z, w'.cell? ⟨g, j * 4, none⟩ = some (.int .i64 z) ∧ w'.frozen? ⟨g, j * 4, none⟩ = false
theorem Spoilt.set {w wr : World} {g n : Nat} (h : Spoilt w g n wr) (k : Nat) (z : Int) : Spoilt w g n (wr.setCell ⟨g, k * 4, none⟩ (.int .i64 z)) := by
  refine ⟨⟨h.kp.os, h.kp.tape, h.kp.output, by simpa [World.setCell] using h.kp.size, fun j hj hne => ?_⟩, by simpa [World.setCell] using h.size, fun j hj => ?_⟩
  · have hne : ¬ g = j := fun e => hne e.symm
    have : (wr.setCell ⟨g, k * 4, none⟩ (.int .i64 z)).heap[j]? = wr.heap[j]? := by simp [World.setCell, Array.getElem?_modify, hne]
    exact this.trans (h.kp.block j hj (fun e => hne e.symm))
  · obtain ⟨y, hy, hf⟩ := h.cells j hj
    by_cases e : j = k
    · subst e
      exact ⟨z, World.cell?_setCell_same _ _ _ hy, by rw [World.frozen?_setCell]; exact hf⟩
    · exact ⟨y, (World.cell?_setCell_other _ _ _ _ (by simp)).trans hy, by rw [World.frozen?_setCell]; exact hf⟩
set_option maxRecDepth 100000 in
set_option maxHeartbeats 800000 in
theorem spoil_any (g c n : Nat) (hn : n ≤ 9223372036854775807) (w : World) (hc : ∀ j, j < n → ∃ z, w.cell? ⟨g, j * 4, none⟩ = some (.int .i64 z) ∧ w.frozen? ⟨g, j * 4, none⟩ = false) :
    Calls Try.prog 14 #[.slice (some ⟨g, 0, none⟩) n c] w fun e w' => e = .returned (.tuple #[]) ∧ Spoilt w g n w' := by
  go_enter Try.func14, Try.ntmps14
  go_wp2
  go_loopw [2] (fun i wr => ∃ (k : Nat), k ≤ n ∧ i = .int .i64 k ∧ Spoilt w g n wr) (fun i _ => n - (intOf i).toNat)
  case atStart => exact ⟨0, Nat.zero_le _, rfl, kp_refl _ _, rfl, hc⟩
  case round =>
    obtain ⟨k, hkl, rfl, hs⟩ := hrel
    by_cases hlt : k < n
    · obtain ⟨z, hz, hf⟩ := hs.cells k hlt
      go_wp2_with fail
      exact ⟨⟨k + 1, hlt, by simp, hs.set k _⟩, by simp [intOf]; omega⟩
    · obtain rfl : k = n := by omega
      go_wp2_with fail
      go_end0
      exact ⟨rfl, hs⟩
theorem spoil_nil (w : World) : Calls Try.prog 14 #[.slice none 0 0] w fun e w' => e = .returned (.tuple #[]) ∧ w' = w := by
  go_enter Try.func14, Try.ntmps14
  go_wp2
  go_loopw [2] (fun i wr => i = .int .i64 0 ∧ wr = w) (fun _ _ => 0)
  case atStart => exact ⟨rfl, rfl⟩
  case round =>
    obtain ⟨rfl, rfl⟩ := hrel
    go_wp2_with fail
    go_end0
    exact ⟨rfl, rfl⟩
end Go.Proofs.Ytfkgfibmhhlemaa
namespace Go.Proofs.Ytfkgfibmhhlemaa
open Go.RowKit Go.Maps Go.WideMaps
mutual
/-- a lent tree: behind the kids stands a mark -/
def LentAt (R : Nat → Prop) (w : World) : Nd → Value → Prop
  | .mk k t x ks a, V => ∃ b o cap, V = .agg #[.int .i64 k, .string t, .float .f64 x, .slice (some ⟨b, o, none⟩) ks.length cap, .int .i64 a] ∧ ks.length + 1 ≤ cap ∧ cap ≤ 9223372036854775807 ∧ R b ∧ w.cell? ⟨b, o + ks.length * 5, none⟩ = some (.int .i64 777) ∧ LentL R w ks (.slice (some ⟨b, o, none⟩) ks.length cap) 0
def LentL (R : Nat → Prop) (w : World) : List Nd → Value → Nat → Prop
  | [], _, _ => True
  | n :: r, S, i => (∃ c0 c1 c2 c3 c4, ElemAt R w S i c0 c1 c2 c3 c4 ∧ LentAt R w n (.agg #[c0, c1, c2, c3, c4])) ∧ LentL R w r S (i + 1)
end
mutual
theorem LentAt.node {R : Nat → Prop} {w : World} : ∀ {nd : Nd} {V : Value}, LentAt R w nd V → NodeAt R w nd V
  | .mk _ _ _ _ _, _, ⟨b, o, cap, e, h1, h2, _, _, hk⟩ => ⟨_, e, .inr ⟨b, o, cap, rfl, by omega, by unfold maxLen; omega⟩, LentL.kids hk⟩
theorem LentL.kids {R : Nat → Prop} {w : World} : ∀ {ks : List Nd} {S : Value} {i : Nat}, LentL R w ks S i → KidsAt R w ks S i
  | [], _, _, _ => trivial
  | _ :: _, _, _, ⟨⟨c0, c1, c2, c3, c4, he, hn⟩, hr⟩ => ⟨⟨c0, c1, c2, c3, c4, he, LentAt.node hn⟩, LentL.kids hr⟩
end
mutual
theorem LentAt.kept {R : Nat → Prop} {w w' : World} (h : ∀ k, R k → w'.heap[k]? = w.heap[k]?) : ∀ {nd : Nd} {V : Value}, LentAt R w nd V → LentAt R w' nd V
  | .mk _ _ _ _ _, _, ⟨b, o, cap, e, h1, h2, hr, h3, hk⟩ => ⟨b, o, cap, e, h1, h2, hr, (World.cell?_of_block (h b hr)).trans h3, LentL.kept h hk⟩
theorem LentL.kept {R : Nat → Prop} {w w' : World} (h : ∀ k, R k → w'.heap[k]? = w.heap[k]?) : ∀ {ks : List Nd} {S : Value} {i : Nat}, LentL R w ks S i → LentL R w' ks S i
  | [], _, _, _ => trivial
  | _ :: _, _, _, ⟨⟨c0, c1, c2, c3, c4, he, hn⟩, hr⟩ => ⟨⟨c0, c1, c2, c3, c4, he.kept h, LentAt.kept h hn⟩, LentL.kept h hr⟩
end
mutual
theorem LentAt.weak {R R' : Nat → Prop} {w : World} (h : ∀ k, R k → R' k) : ∀ {nd : Nd} {V : Value}, LentAt R w nd V → LentAt R' w nd V
  | .mk _ _ _ _ _, _, ⟨b, o, cap, e, h1, h2, hr, h3, hk⟩ => ⟨b, o, cap, e, h1, h2, h b hr, h3, LentL.weak h hk⟩
theorem LentL.weak {R R' : Nat → Prop} {w : World} (h : ∀ k, R k → R' k) : ∀ {ks : List Nd} {S : Value} {i : Nat}, LentL R w ks S i → LentL R' w ks S i
  | [], _, _, _ => trivial
  | _ :: _, _, _, ⟨⟨c0, c1, c2, c3, c4, he, hn⟩, hr⟩ => ⟨⟨c0, c1, c2, c3, c4, he.weak h, LentAt.weak h hn⟩, LentL.weak h hr⟩
end
theorem LentL.at {R : Nat → Prop} {w : World} {S : Value} : ∀ {ks : List Nd} {j : Nat} (i : Nat) (h : i < ks.length), LentL R w ks S j → ∃ c0 c1 c2 c3 c4, ElemAt R w S (j + i) c0 c1 c2 c3 c4 ∧ LentAt R w ks[i] (.agg #[c0, c1, c2, c3, c4])
  | _ :: _, _, 0, _, ⟨h, _⟩ => h
  | n :: r, j, i + 1, hi, ⟨_, h⟩ => by
    have := LentL.at (ks := r) (j := j + 1) i (by simpa using hi) h
    rw [show j + (i + 1) = j + 1 + i by omega]
    exact this
abbrev W2b (w : World) (k : Int) (t : ByteArray) (x : Nat) (S1 S2 : Value) (a : Int) : World := (w.alloc (.cells #[.int .i64 k, .string t, .float .f64 x, S1, .int .i64 a] 25)).alloc (.cells #[.int .i64 k, .string t, .float .f64 x, S2, .int .i64 a] 25)
structure Box5 (w : World) (s : Nat) (k : Int) (t : ByteArray) (x : Nat) (S : Value) (a : Int) : Prop where
  c0 : w.cell? ⟨s, 0, none⟩ = some (.int .i64 k)
  c1 : w.cell? ⟨s, 1, none⟩ = some (.string t)
  c2 : w.cell? ⟨s, 2, none⟩ = some (.float .f64 x)
  c3 : w.cell? ⟨s, 3, none⟩ = some S
  c4 : w.cell? ⟨s, 4, none⟩ = some (.int .i64 a)
theorem box5_of {w : World} {s : Nat} {k : Int} {t : ByteArray} {x : Nat} {S : Value} {a : Int} (hb : w.heap[s]? = some (.cells #[.int .i64 k, .string t, .float .f64 x, S, .int .i64 a] 25)) : Box5 w s k t x S a :=
  ⟨cell_of hb 0 _ rfl, cell_of hb 1 _ rfl, cell_of hb 2 _ rfl, cell_of hb 3 _ rfl, cell_of hb 4 _ rfl⟩
theorem w2b_0 {w wr : World} {k : Int} {t : ByteArray} {x : Nat} {S1 S2 : Value} {a : Int} (h : Kp (fun _ => False) (W2b w k t x S1 S2 a) wr) : Box5 wr w.heap.size k t x S1 a :=
  box5_of ((h.block _ (by simp; omega) fun e => e).trans ((heap_alloc_old _ _ (by simp)).trans (heap_alloc_new w _)))
theorem w2b_1 {w wr : World} {k : Int} {t : ByteArray} {x : Nat} {S1 S2 : Value} {a : Int} (h : Kp (fun _ => False) (W2b w k t x S1 S2 a) wr) : Box5 wr (w.heap.size + 1) k t x S2 a :=
  box5_of ((h.block _ (by simp) fun e => e).trans (by
    have := heap_alloc_new (w.alloc (.cells #[.int .i64 k, .string t, .float .f64 x, S1, .int .i64 a] 25)) (.cells #[.int .i64 k, .string t, .float .f64 x, S2, .int .i64 a] 25)
    simpa using this))
theorem Kp.drewN {w w' : World} {S : Nat → Prop} (h : Kp S w w') (n : Nat) : Kp S w (w'.drewN n) := ⟨h.os, h.tape, h.output, h.size, h.block⟩
theorem Kp.drew {w w' : World} {S : Nat → Prop} (h : Kp S w w') : Kp S w w'.drew := ⟨h.os, h.tape, h.output, h.size, h.block⟩
set_option maxRecDepth 100000 in
set_option maxHeartbeats 4000000 in
theorem kept_walk (k : Int) (t : ByteArray) (x : Nat) (a : Int) (b1 o1 c1 : Nat) (ao : Option Addr) (c2 n : Nat) (h1 : n + 1 ≤ c1) (hc1 : c1 ≤ 9223372036854775807) (h2 : n ≤ c2) (_hc2 : c2 ≤ 9223372036854775807) (w : World)
    (hao : ∀ j, j < n → ∃ kb ko, ao = some ⟨kb, ko, none⟩)
    (hm : ∀ wr, Kp (fun _ => False) w wr → wr.cell? ⟨b1, o1 + n * 5, none⟩ = some (.int .i64 777))
    (hkid : ∀ j wr kb ko, ao = some ⟨kb, ko, none⟩ → j < n → Kp (fun _ => False) w wr → ∃ c0 c1 c2 c3 c4 d0 d1 d2 d3 d4, wr.cell? ⟨b1, o1 + j * 5, none⟩ = some c0 ∧ wr.cell? ⟨b1, o1 + j * 5 + 1, none⟩ = some c1 ∧ wr.cell? ⟨b1, o1 + j * 5 + 2, none⟩ = some c2 ∧ wr.cell? ⟨b1, o1 + j * 5 + 3, none⟩ = some c3 ∧ wr.cell? ⟨b1, o1 + j * 5 + 4, none⟩ = some c4 ∧
      wr.cell? ⟨kb, ko + j * 5, none⟩ = some d0 ∧ wr.cell? ⟨kb, ko + j * 5 + 1, none⟩ = some d1 ∧ wr.cell? ⟨kb, ko + j * 5 + 2, none⟩ = some d2 ∧ wr.cell? ⟨kb, ko + j * 5 + 3, none⟩ = some d3 ∧ wr.cell? ⟨kb, ko + j * 5 + 4, none⟩ = some d4 ∧
      Calls Try.prog 13 #[.agg #[c0, c1, c2, c3, c4], .agg #[d0, d1, d2, d3, d4]] wr.drew fun e w' => e = .returned (.bool true) ∧ Kp (fun _ => False) wr w') :
    Calls Try.prog 13 #[.agg #[.int .i64 k, .string t, .float .f64 x, .slice (some ⟨b1, o1, none⟩) n c1, .int .i64 a], .agg #[.int .i64 k, .string t, .float .f64 x, .slice ao n c2, .int .i64 a]] w fun e w' => e = .returned (.bool true) ∧ Kp (fun _ => False) w w' := by
  have hk0 : Kp (fun _ => False) w (W2b w k t x (.slice (some ⟨b1, o1, none⟩) n c1) (.slice ao n c2) a) := (kp_alloc w _).trans0 (kp_alloc _ _)
  have hmm := hm _ hk0
  go_enter Try.func13, Try.ntmps13
  go_wp2_with fail
  go_quiet (fail)
  generalize hW : W2b w k t x (.slice (some ⟨b1, o1, none⟩) n c1) (.slice ao n c2) a = W at hk0
  go_wp2_with fail
  go_loopw [5] (fun i wr => ∃ (j : Nat), j ≤ n ∧ i = .int .i64 j ∧ Kp (fun _ => False) W wr) (fun i _ => n - (intOf i).toNat)
  case atStart => exact ⟨0, Nat.zero_le _, rfl, by rw [← hW]; exact (kp_refl _ _).drewN _⟩
  case round =>
    obtain ⟨j, hjl, rfl, hs⟩ := hrel
    have hs' := hs
    rw [← hW] at hs'
    obtain ⟨x0, x1, x2, x3, x4⟩ := w2b_0 hs'
    obtain ⟨y0, y1, y2, y3, y4⟩ := w2b_1 hs'
    by_cases hlt : j < n
    · obtain ⟨kb, ko, rfl⟩ := hao j hlt
      obtain ⟨c0', c1', c2', c3', c4', d0, d1, d2, d3, d4, g0, g1, g2, g3, g4, q0, q1, q2, q3, q4, hcall⟩ := hkid j _ kb ko rfl hlt (hk0.trans0 hs)
      clear hkid hao hm hs'
      go_wp2_with fail
      go_region_with (go_at_call 13; refine Calls.mono hcall ?_; rintro e w2 ⟨rfl, h2⟩)
      all_goals
        go_wp2_with fail
        exact ⟨⟨j + 1, hlt, by simp, hs.trans0 h2⟩, by simp [intOf]; omega⟩
    · obtain rfl : j = n := by omega
      have hsame := same_self x
      clear hkid hao hm
      go_wp2_with (go_at_call 22; refine (hsame _).mono ?_; rintro e w' ⟨rfl, rfl⟩)
      go_ret
      exact ⟨rfl, hk0.trans0 hs⟩
def KeptOk (nd : Nd) : Prop := ∀ (R R2 : Nat → Prop) (w : World) (V1 V2 : Value), (∀ k, R k → k < w.heap.size) → (∀ k, R2 k → k < w.heap.size) → LentAt R w nd V1 → NodeAt R2 w nd V2 → Calls Try.prog 13 #[V1, V2] w fun e w' => e = .returned (.bool true) ∧ Kp (fun _ => False) w w'
theorem kept_node (k : Int) (t : ByteArray) (x : Nat) (ks : List Nd) (a : Int) (ih : ∀ i (h : i < ks.length), KeptOk ks[i]) : KeptOk (.mk k t x ks a) := by
  intro R R2 w V1 V2 hR hR2 hL hN
  obtain ⟨b1, o1, c1, rfl, hc1, hc2, hRb, h777, hkl⟩ := hL
  obtain ⟨S, rfl, hlen, hkk⟩ := hN
  obtain ⟨ao, cap, hl, hcap, rfl⟩ : ∃ ao cap, ks.length ≤ cap ∧ cap ≤ 9223372036854775807 ∧ S = .slice ao ks.length cap := by
    rcases hlen with ⟨h0, q, cap, rfl, h2⟩ | ⟨kb, ko, cap, rfl, h1, h2⟩
    · unfold maxLen at h2; exact ⟨q, cap, by omega, by omega, by rw [h0]⟩
    · unfold maxLen at h2; exact ⟨_, cap, h1, h2, rfl⟩
  refine kept_walk k t x a b1 o1 c1 ao cap ks.length hc1 hc2 hl hcap w (fun j hj => ?_) (fun wr hk => (World.cell?_of_block (hk.block b1 (hR b1 hRb) fun e => e)).trans h777) fun j wr kb ko hao hj hk => ?_
  · rcases hlen with ⟨h0, _⟩ | ⟨kb, ko, cap', e, _⟩
    · omega
    · injection e with e; exact ⟨kb, ko, e⟩
  · subst hao
    have hb1 : ∀ i, R i → wr.heap[i]? = w.heap[i]? := fun i hi => hk.block i (hR i hi) fun e => e
    have hb2 : ∀ i, R2 i → wr.heap[i]? = w.heap[i]? := fun i hi => hk.block i (hR2 i hi) fun e => e
    obtain ⟨c0, c1', c2, c3, c4, ⟨b', o', n', cap', e, hRb', g0, g1, g2, g3, g4⟩, hnd⟩ := LentL.at j hj hkl
    injection e with e1 e2 e3; injection e1 with e1; injection e1 with e4 e5; subst e4; subst e5
    obtain ⟨d0, d1, d2, d3, d4, ⟨b', o', n', cap', e, hRb2, q0, q1, q2, q3, q4⟩, hnd2⟩ := KidsAt.at j hj hkk
    injection e with e1 e2 e3; injection e1 with e1; injection e1 with e4 e5; subst e4; subst e5
    rw [Nat.zero_add] at g0 g1 g2 g3 g4 q0 q1 q2 q3 q4
    have x1 := hb1 _ hRb'
    have x2 := hb2 _ hRb2
    refine ⟨c0, c1', c2, c3, c4, d0, d1, d2, d3, d4, (World.cell?_of_block x1).trans g0, (World.cell?_of_block x1).trans g1, (World.cell?_of_block x1).trans g2, (World.cell?_of_block x1).trans g3, (World.cell?_of_block x1).trans g4, (World.cell?_of_block x2).trans q0, (World.cell?_of_block x2).trans q1, (World.cell?_of_block x2).trans q2, (World.cell?_of_block x2).trans q3, (World.cell?_of_block x2).trans q4, ?_⟩
    have hsz := hk.size
    exact (ih j hj R R2 wr.drew _ _ (fun i hi => Nat.lt_of_lt_of_le (hR i hi) hsz) (fun i hi => Nat.lt_of_lt_of_le (hR2 i hi) hsz) (hnd.kept (w' := wr.drew) hb1) (hnd2.kept (w' := wr.drew) hb2)).mono fun e w' h => ⟨h.1, h.2.os, h.2.tape, h.2.output, h.2.size, h.2.block⟩
mutual
theorem kept_any : ∀ nd, KeptOk nd
  | .mk k t x ks a => kept_node k t x ks a (kept_all ks)
theorem kept_all : ∀ (ks : List Nd) (i : Nat) (h : i < ks.length), KeptOk ks[i]
  | [], _, h => absurd h (Nat.not_lt_zero _)
  | n :: _, 0, _ => kept_any n
  | _ :: r, i + 1, h => kept_all r i (Nat.lt_of_succ_lt_succ h)
end
end Go.Proofs.Ytfkgfibmhhlemaa
namespace Go.Proofs.Ytfkgfibmhhlemaa
open Go.RowKit Go.Maps Go.WideMaps
theorem info25 : (Try.prog.info? 25).map (fun i => (i.zero, i.size, i.bytes)) = some (some (.agg #[.int .i64 0, .string ⟨#[]⟩, .float .f64 0, .slice none 0 0, .int .i64 0]), 5, 64) := by kernel_rfl
/-- an append of one element, for the walk: where the row lies behind it -/
theorem wpList_own {P : Program} {w : World} {ops : Array Oper} {rest : List Oper} {o : Oper} {a : Act} {Q : Exit → Act → World → Prop} (hg : o.guard = none) (s x : Operand) (t : TypeId) (ho : o.op = .call { callee := .builtin .append, args := #[s, x], argTypes := #[t, t] })
    (base : Nat) (e : TypeId) (i : TypeInfo) (z : Value) (size bytes : Nat) (ht : P.underlying t = some (.slice e)) (hi : P.info? e = some i) (hz : i.zero = some z)
    (hsize : i.size = size) (hby : i.bytes = bytes) (hzs : z.cells.size = size) (hsz : 0 < size)
    (v : Value) (n : Nat) (xs : List Value) (hs : a.eval s = v) (hown : w.ownsRow base e size v n xs)
    (ad : Addr) (c : Nat) (news : List Value) (hx : a.eval x = .slice (some ad) 1 c) (hl : news.length = 1 * size) (hnews : ∀ j u, news[j]? = some u → w.cell? (ad.add j) = some u) (h1 : ∀ u ∈ news, u.oneCell' = true)
    (h63 : n + 1 ≤ maxLen) (hbytes : (n + 1) * bytes ≤ 140737488355328) (hbase : base ≤ w.heap.size)
    (h : ∀ v' w', w'.ownsRow base e size v' (n + 1) (xs ++ news) → w.grownBy w' v.ownBlock → (∀ k, v'.ownBlock = some k → v.ownBlock = some k ∨ w.heap.size ≤ k) → wpList P ops Q rest (a.put o.dst v') w') :
    wpList P ops Q (o :: rest) a w := by
  refine wpList_plain hg fun K' hK' => ?_
  obtain ⟨v', w', hr, h2, h3, h4⟩ := run_own (P := P) w base t o.type e i z size bytes ht hi hz hsize hby hzs hsz v n xs hown ad c news hl hnews h1 h63 hbytes hbase
  unfold Oper.wp
  simp [execOp, ho, resolve, invoke, builtin, hs, hx, hr, Result.andThen]
  exact hK' _ _ (h v' w' h2 h3 h4)
theorem news5 (w : World) (k : Nat) (hk : k = w.heap.size) (a b c d e : Value) : ∀ j u, [a, b, c, d, e][j]? = some u → (w.alloc (.cells #[a, b, c, d, e] 25)).cell? ((⟨k, 0, none⟩ : Addr).add j) = some u := by
  subst hk
  intro j u h
  have e : (⟨w.heap.size, 0, none⟩ : Addr).add j = ⟨w.heap.size, j, none⟩ := by simp [Addr.add]; exact Eq.symm
  rw [e, World.cell?_alloc_new]
  simpa using h
theorem info25s : (Try.prog.info? 25).map (·.size) = some 5 := by kernel_rfl
theorem five_set {w : World} {s g : Nat} (hne : s ≠ g) {a0 a1 a2 a3 a4 b0 b1 b2 b3 b4 u : Value} {ty : TypeId} (h : w.heap[g]? = some (.cells #[a0, a1, a2, a3, a4] ty)) :
    ((((((w.setCell ⟨s, 3, none⟩ u).setCell ⟨g, 0, none⟩ b0).setCell ⟨g, 1, none⟩ b1).setCell ⟨g, 2, none⟩ b2).setCell ⟨g, 3, none⟩ b3).setCell ⟨g, 4, none⟩ b4).heap[g]? = some (.cells #[b0, b1, b2, b3, b4] ty) := by
  simp [World.setCell, Array.getElem?_modify, h, hne]
theorem five_other {w : World} {s g j : Nat} (h1 : j ≠ s) (h2 : j ≠ g) {b0 b1 b2 b3 b4 u : Value} :
    ((((((w.setCell ⟨s, 3, none⟩ u).setCell ⟨g, 0, none⟩ b0).setCell ⟨g, 1, none⟩ b1).setCell ⟨g, 2, none⟩ b2).setCell ⟨g, 3, none⟩ b3).setCell ⟨g, 4, none⟩ b4).heap[j]? = w.heap[j]? := by
  simp [World.setCell, Array.getElem?_modify, h1.symm, h2.symm]
theorem sc_size (w : World) (a : Addr) (v : Value) : (w.setCell a v).heap.size = w.heap.size := by simp [World.setCell]
theorem sc_os (w : World) (a : Addr) (v : Value) : (w.setCell a v).os = w.os := rfl
theorem sc_tape (w : World) (a : Addr) (v : Value) : (w.setCell a v).tape = w.tape := rfl
theorem sc_out (w : World) (a : Addr) (v : Value) : (w.setCell a v).output = w.output := rfl
theorem five_frame (w : World) (s g : Nat) (b0 b1 b2 b3 b4 u : Value) (W : World) (hW : W = ((((((w.setCell ⟨s, 3, none⟩ u).setCell ⟨g, 0, none⟩ b0).setCell ⟨g, 1, none⟩ b1).setCell ⟨g, 2, none⟩ b2).setCell ⟨g, 3, none⟩ b3).setCell ⟨g, 4, none⟩ b4)) :
    W.heap.size = w.heap.size ∧ W.os = w.os ∧ W.tape = w.tape ∧ W.output = w.output := by
  subst hW
  simp only [sc_size, sc_os, sc_tape, sc_out, and_self]
theorem lend_end {W : World} {g : Nat} {cs : Array Value} {Q : Ending → World → Prop} {tmps : Array Value} (hh : W.heap[g]? = some (.cells cs 25)) (ht : tmps.getD 2 undef = .pointer (some ⟨g, 0, none⟩)) (hQ : Q (.returned (.agg cs)) W) (hcs : cs.size = 5 := by rfl) : bodyPost Try.prog Try.f8 Q .ret { tmps := tmps, defers := [] } W :=
  bodyPost_ret (results_cell_row rfl tmps W g 25 cs (0, 0) _ ht hh Try.underlying25 rfl (by rw [info25s, hcs])) rfl hQ
abbrev WL (w : World) (k : Int) (t : ByteArray) (x : Nat) (S : Value) (a : Int) : World := (w.alloc (.cells #[.int .i64 k, .string t, .float .f64 x, S, .int .i64 a] 25)).alloc (.cells #[.int .i64 0, .string ⟨#[]⟩, .float .f64 0, .slice none 0 0, .int .i64 0] 25)
/-- the call's own variables -/
structure Vars (w : World) (s : Nat) (k : Int) (t : ByteArray) (x : Nat) (S : Value) (a : Int) : Prop where
  box : w.heap[s]? = some (.cells #[.int .i64 k, .string t, .float .f64 x, S, .int .i64 a] 25)
  res : w.heap[s + 1]? = some (.cells #[.int .i64 0, .string ⟨#[]⟩, .float .f64 0, .slice none 0 0, .int .i64 0] 25)
set_option maxRecDepth 100000 in
set_option maxHeartbeats 4000000 in
theorem lend_walk (P : Nat → Value → World → Prop) (P2 : Value → World → Prop) (Q : Ending → World → Prop) (k : Int) (t : ByteArray) (x : Nat) (ao : Option Addr) (n cap : Nat) (hl : n ≤ cap) (_hcap : cap ≤ 9223372036854775807) (hn : n + 1 ≤ 2199023255552) (a : Int) (w : World)
    (hao : ∀ j, j < n → ∃ kb ko, ao = some ⟨kb, ko, none⟩)
    (hP0 : ∀ w0, w0.ownsRow w.heap.size 25 5 (.slice (some ⟨w.heap.size + 1 + 1, 0, none⟩) 0 (n + 1)) 0 [] → (WL w k t x (.slice ao n cap) a).grownBy w0 none → P 0 (.slice (some ⟨w.heap.size + 1 + 1, 0, none⟩) 0 (n + 1)) w0)
    (hPv : ∀ j v wr, P j v wr → Vars wr w.heap.size k t x (.slice ao n cap) a ∧ w.heap.size ≤ wr.heap.size ∧ ∃ xs, wr.ownsRow w.heap.size 25 5 v j xs)
    (hkid : ∀ j v wr kb ko, ao = some ⟨kb, ko, none⟩ → j < n → P j v wr → ∃ c0 c1 c2 c3 c4, wr.cell? ⟨kb, ko + j * 5, none⟩ = some c0 ∧ wr.cell? ⟨kb, ko + j * 5 + 1, none⟩ = some c1 ∧ wr.cell? ⟨kb, ko + j * 5 + 2, none⟩ = some c2 ∧ wr.cell? ⟨kb, ko + j * 5 + 3, none⟩ = some c3 ∧ wr.cell? ⟨kb, ko + j * 5 + 4, none⟩ = some c4 ∧
      Calls Try.prog 8 #[.agg #[c0, c1, c2, c3, c4]] wr fun e w' => ∃ d0 d1 d2 d3 d4 xs, e = .returned (.agg #[d0, d1, d2, d3, d4]) ∧ (∀ u ∈ [d0, d1, d2, d3, d4], u.oneCell' = true) ∧ w'.ownsRow w.heap.size 25 5 v j xs ∧ w.heap.size ≤ w'.heap.size ∧
        ∀ v' w2, w2.ownsRow w.heap.size 25 5 v' (j + 1) (xs ++ [d0, d1, d2, d3, d4]) → (w'.alloc (.cells #[d0, d1, d2, d3, d4] 25)).grownBy w2 v.ownBlock → (∀ k, v'.ownBlock = some k → v.ownBlock = some k ∨ (w'.alloc (.cells #[d0, d1, d2, d3, d4] 25)).heap.size ≤ k) → P (j + 1) v' w2)
    (hlast : ∀ v wr xs v' w2, P n v wr → wr.ownsRow w.heap.size 25 5 v n xs → w2.ownsRow w.heap.size 25 5 v' (n + 1) (xs ++ [.int .i64 777, .string ⟨#[]⟩, .float .f64 0, .slice none 0 0, .int .i64 0]) → (wr.alloc (.cells #[.int .i64 777, .string ⟨#[]⟩, .float .f64 0, .slice none 0 0, .int .i64 0] 25)).grownBy w2 v.ownBlock →
      (∀ k, v'.ownBlock = some k → v.ownBlock = some k ∨ (wr.alloc (.cells #[.int .i64 777, .string ⟨#[]⟩, .float .f64 0, .slice none 0 0, .int .i64 0] 25)).heap.size ≤ k) → P2 v' w2)
    (hend : ∀ v w2, P2 v w2 → Vars w2 w.heap.size k t x (.slice ao n cap) a ∧ ∃ g c, v = .slice (some ⟨g, 0, none⟩) (n + 1) c ∧ n + 1 ≤ c ∧ c ≤ 9223372036854775807 ∧
      ∀ w3, w3.heap.size = w2.heap.size → w3.os = w2.os → w3.tape = w2.tape → w3.output = w2.output → (∀ j, j ≠ w.heap.size → j ≠ w.heap.size + 1 → w3.heap[j]? = w2.heap[j]?) → Q (.returned (.agg #[.int .i64 k, .string t, .float .f64 x, .slice (some ⟨g, 0, none⟩) n c, .int .i64 a])) w3) :
    Calls Try.prog 8 #[.agg #[.int .i64 k, .string t, .float .f64 x, .slice ao n cap, .int .i64 a]] w Q := by
  obtain ⟨i0, hi, hz0, hz1, hz2⟩ := info_parts info25
  have hsf : ∀ (w : World) (a : Addr), (store a (.float .f64 x)).run Try.prog w = stored Try.prog w a (.float .f64 x) .plain := fun w a => run_store _ w a _ _ rfl
  go_enter Try.func8, Try.ntmps8
  go_wp2_with (first
    | (at_make; refine wpList_make_own _ rfl _ _ 23 rfl w.heap.size 25 i0 _ 5 Try.underlying23 hi hz0 hz1 .i64 .i64 _ (n + 1) rfl rfl (by simp) (by rw [hz2]; omega) (by unfold maxLen; omega) (by simp; omega) ?_; intro w0 hown0 hgrow0))
  have hws : ((w.alloc (.cells #[.int .i64 k, .string t, .float .f64 x, .slice ao n cap, .int .i64 a] 25)).alloc (.cells #[.int .i64 0, .string ⟨#[]⟩, .float .f64 0, .slice none 0 0, .int .i64 0] 25)).heap.size = w.heap.size + 1 + 1 := by simp
  rw [hws] at hown0
  have hPs := hP0 _ hown0 hgrow0
  clear hP0 hown0 hgrow0
  go_loopw [3, 4] (fun v i wr => ∃ (j : Nat), j ≤ n ∧ i = .int .i64 j ∧ P j v wr) (fun _ i _ => n - (intOf i).toNat)
  case atStart => exact ⟨0, Nat.zero_le _, rfl, hPs⟩
  case round =>
    obtain ⟨j, hjl, rfl, hP⟩ := hrel
    obtain ⟨⟨hbox, hres⟩, hle, xs0, hown0⟩ := hPv _ _ _ hP
    have y3 := cell_of hbox 3 _ rfl
    by_cases hlt : j < n
    · obtain ⟨kb, ko, rfl⟩ := hao j hlt
      obtain ⟨c0, c1, c2, c3, c4, g0, g1, g2, g3, g4, hcall⟩ := hkid j _ _ kb ko rfl hlt hP
      clear hkid hao hPv hlast hend hown0
      go_wp2_with (first
        | (go_at_call 8; refine Calls.mono hcall ?_; rintro e w1 ⟨d0, d1, d2, d3, d4, xs, rfl, h1c, hown, hle1, hnext⟩; clear hcall)
        | (at_builtin; refine wpList_own rfl (.tmp 17) (.tmp 24) 23 rfl w.heap.size 25 i0 _ 5 64 Try.underlying23 hi hz0 hz1 hz2 rfl (by decide) _ j xs rfl (hown.alloc _) ⟨w1.heap.size, 0, none⟩ 1 [d0, d1, d2, d3, d4] rfl rfl (by exact news5 _ _ rfl _ _ _ _ _) h1c (by unfold maxLen; omega) (by omega) (by simp; omega) ?_; intro v1 w2 hown1 hgrow1 hfr1; have hP1 := hnext _ _ hown1 hgrow1 hfr1; clear hnext))
      exact ⟨⟨j + 1, hlt, by simp, hP1⟩, by simp [intOf]; omega⟩
    · obtain rfl : j = n := by omega
      clear hkid hao hPv
      go_wp2_with (first
        | (at_builtin; refine wpList_own rfl (.tmp 26) (.tmp 28) 23 rfl w.heap.size 25 i0 _ 5 64 Try.underlying23 hi hz0 hz1 hz2 rfl (by decide) _ j xs0 rfl (hown0.alloc _) ⟨_, 0, none⟩ 1 [.int .i64 777, .string ⟨#[]⟩, .float .f64 0, .slice none 0 0, .int .i64 0] rfl rfl (by exact news5 _ _ rfl _ _ _ _ _) (by intro u hu; simp at hu; rcases hu with rfl | rfl | rfl | rfl | rfl <;> rfl) (by unfold maxLen; omega) (by omega) (by simp; omega) ?_; intro v1 w2 hown1 hgrow1 hfr1; obtain ⟨⟨hbox2, hres2⟩, g, c, rfl, hgc, hc, hQ⟩ := hend _ _ (hlast _ _ _ _ _ hP hown0 hown1 hgrow1 hfr1); have q0 := cell_of hbox2 0 _ rfl; have q1 := cell_of hbox2 1 _ rfl; have q2 := cell_of hbox2 2 _ rfl; have q3 := cell_of hbox2 3 _ rfl; have q4 := cell_of hbox2 4 _ rfl; have p0 := cell_of hres2 0 _ rfl; have p1 := cell_of hres2 1 _ rfl; have p2 := cell_of hres2 2 _ rfl; have p3 := cell_of hres2 3 _ rfl; have p4 := cell_of hres2 4 _ rfl; have z0 := frozen_of hbox2 3; have r0 := frozen_of hres2 0; have r1 := frozen_of hres2 1; have r2 := frozen_of hres2 2; have r3 := frozen_of hres2 3; have r4 := frozen_of hres2 4; clear hown0 hown1 hgrow1 hfr1 hend hlast hP hbox hres))
      have hh := five_set (w := w2) (s := w.heap.size) (g := w.heap.size + 1) (by omega) (u := .slice (some ⟨g, 0, none⟩) j c) (b0 := .int .i64 k) (b1 := .string t) (b2 := .float .f64 x) (b3 := .slice (some ⟨g, 0, none⟩) j c) (b4 := .int .i64 a) hres2
      have ho := fun i h1 h2 => five_other (w := w2) (s := w.heap.size) (g := w.heap.size + 1) (j := i) h1 h2 (u := .slice (some ⟨g, 0, none⟩) j c) (b0 := .int .i64 k) (b1 := .string t) (b2 := .float .f64 x) (b3 := .slice (some ⟨g, 0, none⟩) j c) (b4 := .int .i64 a)
      have hf := five_frame w2 w.heap.size (w.heap.size + 1) (.int .i64 k) (.string t) (.float .f64 x) (.slice (some ⟨g, 0, none⟩) j c) (.int .i64 a) (.slice (some ⟨g, 0, none⟩) j c) _ rfl
      generalize ((((((w2.setCell ⟨w.heap.size, 3, none⟩ (.slice (some ⟨g, 0, none⟩) j c)).setCell ⟨w.heap.size + 1, 0, none⟩ (.int .i64 k)).setCell ⟨w.heap.size + 1, 1, none⟩ (.string t)).setCell ⟨w.heap.size + 1, 2, none⟩ (.float .f64 x)).setCell ⟨w.heap.size + 1, 3, none⟩ (.slice (some ⟨g, 0, none⟩) j c)).setCell ⟨w.heap.size + 1, 4, none⟩ (.int .i64 a)) = W at hh ho hf ⊢
      obtain ⟨f1, f2, f3, f4⟩ := hf
      exact lend_end hh rfl (hQ W f1 f2 f3 f4 ho)
end Go.Proofs.Ytfkgfibmhhlemaa
namespace Go.Proofs.Ytfkgfibmhhlemaa
open Go.RowKit Go.Maps Go.WideMaps
/-- the blocks of the kids that are lent already -/
abbrev RK (w wr : World) (v : Value) : Nat → Prop := fun b => w.heap.size + 2 ≤ b ∧ b < wr.heap.size ∧ v.ownBlock ≠ some b
def Five (R : Nat → Prop) (w : World) (ks : List Nd) (L : List (List Value)) : Prop := ∀ i (h : i < ks.length), i < L.length → ∃ d0 d1 d2 d3 d4, L[i]? = some [d0, d1, d2, d3, d4] ∧ LentAt R w ks[i] (.agg #[d0, d1, d2, d3, d4])
structure LendP (w : World) (k : Int) (t : ByteArray) (x : Nat) (S : Value) (a : Int) (ks : List Nd) (j : Nat) (v : Value) (wr : World) (L : List (List Value)) : Prop where
  vars : Vars wr w.heap.size k t x S a
  own : wr.ownsRow w.heap.size 25 5 v j L.flatten
  far : ∀ g, v.ownBlock = some g → w.heap.size + 2 ≤ g
  kp : Kp (fun _ => False) w wr
  len : L.length = j
  five : Five (RK w wr v) wr ks L
theorem flat_at : ∀ (L : List (List Value)) (i : Nat) (d : List Value), (∀ l ∈ L, l.length = 5) → L[i]? = some d → ∀ m, m < 5 → L.flatten[i * 5 + m]? = d[m]?
  | [], i, d, _, h => by simp at h
  | l :: r, 0, d, hl, h => fun m hm => by
    simp at h; subst h
    have h5 := hl l (by simp)
    rw [List.flatten_cons, Nat.zero_mul, Nat.zero_add, List.getElem?_append_left (by omega)]
  | l :: r, i + 1, d, hl, h => fun m hm => by
    have h5 := hl l (by simp)
    rw [List.flatten_cons, List.getElem?_append_right (by omega), h5, show (i + 1) * 5 + m - 5 = i * 5 + m by omega]
    exact flat_at r i d (fun l hm => hl l (by simp [hm])) (by simpa using h) m hm
theorem own_cell {w : World} {B g n c : Nat} {xs : List Value} (h : w.ownsRow B 25 5 (.slice (some ⟨g, 0, none⟩) n c) n xs) {i : Nat} {v : Value} (hi : xs[i]? = some v) : w.cell? ⟨g, i, none⟩ = some v := by
  have := h.cells (g := g) rfl i v hi
  rw [show (⟨g, 0, none⟩ : Addr).add i = ⟨g, i, none⟩ by cases i <;> simp [Addr.add]] at this
  exact this
theorem LentL.of {R : Nat → Prop} {w : World} {S : Value} : ∀ {ks : List Nd} {j : Nat}, (∀ i (h : i < ks.length), ∃ c0 c1 c2 c3 c4, ElemAt R w S (j + i) c0 c1 c2 c3 c4 ∧ LentAt R w ks[i] (.agg #[c0, c1, c2, c3, c4])) → LentL R w ks S j
  | [], _, _ => trivial
  | n :: r, j, h => ⟨h 0 (by simp), LentL.of fun i hi => by
      have := h (i + 1) (by simpa using hi)
      rw [show j + (i + 1) = j + 1 + i by omega] at this
      exact this⟩
def LendPost (w : World) (nd : Nd) (e : Ending) (w' : World) : Prop := ∃ d0 d1 d2 d3 d4, e = .returned (.agg #[d0, d1, d2, d3, d4]) ∧ (∀ u ∈ [d0, d1, d2, d3, d4], u.oneCell' = true) ∧ LentAt (fun b => w.heap.size ≤ b ∧ b < w'.heap.size) w' nd (.agg #[d0, d1, d2, d3, d4]) ∧ Kp (fun _ => False) w w'
def LendOk (nd : Nd) : Prop := ∀ (R : Nat → Prop) (w : World) (V : Value), (∀ k, R k → k < w.heap.size) → NodeAt R w nd V → nd.wt + 1 ≤ 2199023255552 → Calls Try.prog 8 #[V] w (LendPost w nd)
section
variable {w wr w1 w2 : World} {k : Int} {t : ByteArray} {x : Nat} {S : Value} {a : Int} {ks : List Nd} {j : Nat} {v v' : Value} {L : List (List Value)}
/-- one row longer -/
theorem LendP.push (h : LendP w k t x S a ks j v wr L) (hj : j < ks.length) {d0 d1 d2 d3 d4 : Value} (hk1 : Kp (fun _ => False) wr w1) (hnd : LentAt (fun b => wr.heap.size ≤ b ∧ b < w1.heap.size) w1 ks[j] (.agg #[d0, d1, d2, d3, d4]))
    (hown : w2.ownsRow w.heap.size 25 5 v' (j + 1) (L.flatten ++ [d0, d1, d2, d3, d4])) (hg : (w1.alloc (.cells #[d0, d1, d2, d3, d4] 25)).grownBy w2 v.ownBlock) (hfr : ∀ k, v'.ownBlock = some k → v.ownBlock = some k ∨ (w1.alloc (.cells #[d0, d1, d2, d3, d4] 25)).heap.size ≤ k) :
    LendP w k t x S a ks (j + 1) v' w2 (L ++ [[d0, d1, d2, d3, d4]]) := by
  have hsz : (w1.alloc (.cells #[d0, d1, d2, d3, d4] 25)).heap.size = w1.heap.size + 1 := by simp
  rw [hsz] at hfr
  have hsz1 := hk1.size
  have hsz0 := h.kp.size
  have hsz2 : w1.heap.size + 1 ≤ w2.heap.size := by rw [← hsz]; exact hg.size
  have hb : ∀ i, i < w1.heap.size → v.ownBlock ≠ some i → w2.heap[i]? = w1.heap[i]? := fun i hi hne => (hg.block i (by rw [hsz]; omega) fun e => hne e.symm).trans (heap_alloc_old w1 _ hi)
  have hb0 : ∀ i, i < wr.heap.size → v.ownBlock ≠ some i → w2.heap[i]? = wr.heap[i]? := fun i hi hne => (hb i (by omega) hne).trans (hk1.block i hi fun e => e)
  have hvlt : ∀ g, v.ownBlock = some g → g < wr.heap.size := fun g e => (h.own.lt g e).2
  have hwr : w.heap.size + 1 < wr.heap.size := by have := h.vars.res; exact (Array.getElem?_eq_some_iff.1 this).1
  have hnv : ∀ i, i < w.heap.size + 2 → v.ownBlock ≠ some i := fun i hi e => by have := h.far i e; omega
  refine ⟨⟨(hb0 _ (by omega) (hnv _ (by omega))).trans h.vars.box, (hb0 _ hwr (hnv _ (by omega))).trans h.vars.res⟩, by rw [List.flatten_append]; simpa using hown, fun g e => ?_, ⟨hg.os.trans (hk1.os.trans h.kp.os), hg.tape.trans (hk1.tape.trans h.kp.tape), hg.output.trans (hk1.output.trans h.kp.output), by omega, fun i hi _ => (hb0 i (by omega) (hnv i (by omega))).trans (h.kp.block i hi fun e => e)⟩, by rw [List.length_append, h.len]; rfl, fun i hi hil => ?_⟩
  · rcases hfr g e with e | e
    · exact h.far g e
    · omega
  · rw [List.length_append] at hil
    simp at hil
    by_cases hij : i < L.length
    · obtain ⟨e0, e1, e2, e3, e4, hL, hn⟩ := h.five i hi hij
      refine ⟨e0, e1, e2, e3, e4, by rw [List.getElem?_append_left hij]; exact hL, ?_⟩
      refine (hn.kept (w' := w2) fun b hb' => hb0 b hb'.2.1 hb'.2.2).weak fun b hb' => ⟨hb'.1, by omega, fun e => ?_⟩
      rcases hfr b e with e | e
      · exact hb'.2.2 e
      · have := hb'.2.1; omega
    · have hi' : i = j := by have := h.len; omega
      subst hi'
      refine ⟨d0, d1, d2, d3, d4, by rw [List.getElem?_append_right (by omega), h.len]; simp, ?_⟩
      refine (hnd.kept (w' := w2) fun b hb' => hb b hb'.2 fun e => by have := hvlt b e; omega).weak fun b hb' => ⟨by omega, by omega, fun e => ?_⟩
      rcases hfr b e with e | e
      · have := hvlt b e; omega
      · omega
end
end Go.Proofs.Ytfkgfibmhhlemaa
namespace Go.Proofs.Ytfkgfibmhhlemaa
open Go.RowKit Go.Maps Go.WideMaps
abbrev markV : List Value := [.int .i64 777, .string ⟨#[]⟩, .float .f64 0, .slice none 0 0, .int .i64 0]
structure LendQ (w : World) (k : Int) (t : ByteArray) (x : Nat) (S : Value) (a : Int) (ks : List Nd) (v : Value) (w2 : World) (L : List (List Value)) : Prop where
  vars : Vars w2 w.heap.size k t x S a
  own : w2.ownsRow w.heap.size 25 5 v (ks.length + 1) (L.flatten ++ markV)
  far : ∀ g, v.ownBlock = some g → w.heap.size + 2 ≤ g
  kp : Kp (fun _ => False) w w2
  len : L.length = ks.length
  five : Five (RK w w2 v) w2 ks L
theorem LendP.last {w wr w2 : World} {k : Int} {t : ByteArray} {x : Nat} {S : Value} {a : Int} {ks : List Nd} {v v' : Value} {L : List (List Value)} (h : LendP w k t x S a ks ks.length v wr L)
    (hown : w2.ownsRow w.heap.size 25 5 v' (ks.length + 1) (L.flatten ++ markV)) (hg : (wr.alloc (.cells #[.int .i64 777, .string ⟨#[]⟩, .float .f64 0, .slice none 0 0, .int .i64 0] 25)).grownBy w2 v.ownBlock)
    (hfr : ∀ k, v'.ownBlock = some k → v.ownBlock = some k ∨ (wr.alloc (.cells #[.int .i64 777, .string ⟨#[]⟩, .float .f64 0, .slice none 0 0, .int .i64 0] 25)).heap.size ≤ k) : LendQ w k t x S a ks v' w2 L := by
  have hsz : (wr.alloc (.cells #[.int .i64 777, .string ⟨#[]⟩, .float .f64 0, .slice none 0 0, .int .i64 0] 25)).heap.size = wr.heap.size + 1 := by simp
  rw [hsz] at hfr
  have hsz0 := h.kp.size
  have hsz2 : wr.heap.size + 1 ≤ w2.heap.size := by rw [← hsz]; exact hg.size
  have hb : ∀ i, i < wr.heap.size → v.ownBlock ≠ some i → w2.heap[i]? = wr.heap[i]? := fun i hi hne => (hg.block i (by rw [hsz]; omega) fun e => hne e.symm).trans (heap_alloc_old wr _ hi)
  have hwr : w.heap.size + 1 < wr.heap.size := by have := h.vars.res; exact (Array.getElem?_eq_some_iff.1 this).1
  have hnv : ∀ i, i < w.heap.size + 2 → v.ownBlock ≠ some i := fun i hi e => by have := h.far i e; omega
  refine ⟨⟨(hb _ (by omega) (hnv _ (by omega))).trans h.vars.box, (hb _ hwr (hnv _ (by omega))).trans h.vars.res⟩, hown, fun g e => ?_, ⟨hg.os.trans h.kp.os, hg.tape.trans h.kp.tape, hg.output.trans h.kp.output, by omega, fun i hi _ => (hb i (by omega) (hnv i (by omega))).trans (h.kp.block i hi fun e => e)⟩, h.len, fun i hi hil => ?_⟩
  · rcases hfr g e with e | e
    · exact h.far g e
    · omega
  · obtain ⟨e0, e1, e2, e3, e4, hL, hn⟩ := h.five i hi hil
    refine ⟨e0, e1, e2, e3, e4, hL, (hn.kept (w' := w2) fun b hb' => hb b hb'.2.1 hb'.2.2).weak fun b hb' => ⟨hb'.1, by omega, fun e => ?_⟩⟩
    rcases hfr b e with e | e
    · exact hb'.2.2 e
    · have := hb'.2.1; omega
theorem LendQ.close {w w2 w3 : World} {k : Int} {t : ByteArray} {x : Nat} {S : Value} {a : Int} {ks : List Nd} {g c : Nat} {L : List (List Value)} (h : LendQ w k t x S a ks (.slice (some ⟨g, 0, none⟩) (ks.length + 1) c) w2 L) (hc : ks.length + 1 ≤ c) (hcm : c ≤ 9223372036854775807)
    (hsz : w3.heap.size = w2.heap.size) (hos : w3.os = w2.os) (htp : w3.tape = w2.tape) (hout : w3.output = w2.output) (hb : ∀ j, j ≠ w.heap.size → j ≠ w.heap.size + 1 → w3.heap[j]? = w2.heap[j]?) :
    LendPost w (.mk k t x ks a) (.returned (.agg #[.int .i64 k, .string t, .float .f64 x, .slice (some ⟨g, 0, none⟩) ks.length c, .int .i64 a])) w3 := by
  have hgf := h.far g rfl
  have hglt := (h.own.lt g rfl).2
  have hgb := hb g (by omega) (by omega)
  have hl5 : ∀ l ∈ L, l.length = 5 := fun l hl => by
    obtain ⟨i, hi, rfl⟩ := List.getElem_of_mem hl
    obtain ⟨d0, d1, d2, d3, d4, hL, _⟩ := h.five i (by rw [← h.len]; exact hi) hi
    rw [List.getElem?_eq_getElem hi] at hL
    injection hL with hL
    rw [hL]; rfl
  have hfl : L.flatten.length = ks.length * 5 := by
    have := h.own.1
    rw [List.length_append] at this
    simp at this
    have e : ∀ (l : List (List Value)), (∀ x ∈ l, x.length = 5) → l.flatten.length = l.length * 5 := by
      intro l
      induction l with
      | nil => intro _; rfl
      | cons y r ih => intro hy; rw [List.flatten_cons, List.length_append, ih (fun z hz => hy z (by simp [hz])), hy y (by simp), List.length_cons]; omega
    rw [e L hl5, h.len]
  refine ⟨_, _, _, _, _, rfl, by intro u hu; simp at hu; rcases hu with rfl | rfl | rfl | rfl | rfl <;> rfl, ⟨g, 0, c, rfl, hc, hcm, ⟨by omega, by omega⟩, ?_, LentL.of fun i hi => ?_⟩, ⟨hos.trans h.kp.os, htp.trans h.kp.tape, hout.trans h.kp.output, by rw [hsz]; exact h.kp.size, fun i hi hf => (hb i (by omega) (by omega)).trans (h.kp.block i hi hf)⟩⟩
  · refine (World.cell?_of_block hgb).trans (own_cell h.own ?_)
    rw [Nat.zero_add, List.getElem?_append_right (by omega), hfl, Nat.sub_self]
    rfl
  · obtain ⟨d0, d1, d2, d3, d4, hL, hn⟩ := h.five i hi (by rw [h.len]; exact hi)
    have hat := flat_at L i _ hl5 hL
    have hcell : ∀ m (hm : m < 5) (d : Value), ([d0, d1, d2, d3, d4] : List Value)[m]? = some d → w3.cell? ⟨g, i * 5 + m, none⟩ = some d := fun m hm d hd => by
      refine (World.cell?_of_block hgb).trans (own_cell h.own ?_)
      rw [List.getElem?_append_left (by omega), hat m hm, hd]
    refine ⟨d0, d1, d2, d3, d4, ⟨g, 0, ks.length, c, rfl, ⟨by omega, by omega⟩, ?_, ?_, ?_, ?_, ?_⟩, ?_⟩
    · rw [Nat.zero_add, Nat.zero_add]; exact hcell 0 (by omega) _ rfl
    · rw [Nat.zero_add, Nat.zero_add]; exact hcell 1 (by omega) _ rfl
    · rw [Nat.zero_add, Nat.zero_add]; exact hcell 2 (by omega) _ rfl
    · rw [Nat.zero_add, Nat.zero_add]; exact hcell 3 (by omega) _ rfl
    · rw [Nat.zero_add, Nat.zero_add]; exact hcell 4 (by omega) _ rfl
    · exact (hn.kept (w' := w3) fun b hb' => hb b (by have := hb'.1; omega) (by have := hb'.1; omega)).weak fun b hb' => ⟨by have := hb'.1; omega, by rw [hsz]; exact hb'.2.1⟩
theorem own_unique {w : World} {B B' e size n : Nat} {v : Value} {xs ys : List Value} (h1 : w.ownsRow B e size v n xs) (h2 : w.ownsRow B' e size v n ys) : xs = ys := by
  rcases h1.2 with ⟨rfl, rfl⟩ | ⟨g, cap, cur, rfl, _, hg, _, _, _, ht⟩
  · have a := h1.1
    have b := h2.1
    rw [Nat.zero_mul] at a b
    rw [List.eq_nil_of_length_eq_zero a, List.eq_nil_of_length_eq_zero b]
  · rcases h2.2 with ⟨e, _⟩ | ⟨g', cap', cur', e, _, hg', _, _, _, ht'⟩
    · cases e
    · injection e with e1 _ _; injection e1 with e1; injection e1 with e1; subst e1
      rw [hg] at hg'
      injection hg' with hg'; injection hg' with hg'
      rw [← ht, ← ht', hg']
theorem wl_vars {w w0 : World} {k : Int} {t : ByteArray} {x : Nat} {S : Value} {a : Int} (hg : (WL w k t x S a).grownBy w0 none) : Vars w0 w.heap.size k t x S a ∧ Kp (fun _ => False) w w0 := by
  have hsz : (WL w k t x S a).heap.size = w.heap.size + 2 := by simp
  have h0 : (WL w k t x S a).heap[w.heap.size]? = some (.cells #[.int .i64 k, .string t, .float .f64 x, S, .int .i64 a] 25) := (heap_alloc_old _ _ (by simp)).trans (heap_alloc_new w _)
  have h1 : (WL w k t x S a).heap[w.heap.size + 1]? = some (.cells #[.int .i64 0, .string ⟨#[]⟩, .float .f64 0, .slice none 0 0, .int .i64 0] 25) := by
    have := heap_alloc_new (w.alloc (.cells #[.int .i64 k, .string t, .float .f64 x, S, .int .i64 a] 25)) (.cells #[.int .i64 0, .string ⟨#[]⟩, .float .f64 0, .slice none 0 0, .int .i64 0] 25)
    simpa using this
  have hb : ∀ i, i < w.heap.size + 2 → w0.heap[i]? = (WL w k t x S a).heap[i]? := fun i hi => hg.block i (by omega) (fun e => by cases e)
  refine ⟨⟨(hb _ (by omega)).trans h0, (hb _ (by omega)).trans h1⟩, hg.os, hg.tape, hg.output, by have := hg.size; omega, fun i hi _ => (hb i (by omega)).trans ?_⟩
  exact (heap_alloc_old _ _ (by simp; omega)).trans (heap_alloc_old w _ hi)
theorem lend_node (k : Int) (t : ByteArray) (x : Nat) (ks : List Nd) (a : Int) (ih : ∀ i (h : i < ks.length), LendOk ks[i]) : LendOk (.mk k t x ks a) := by
  intro R w V hR hN hs
  obtain ⟨S, rfl, hlen, hkk⟩ := hN
  obtain ⟨ao, cap, hl, hcap, rfl⟩ : ∃ ao cap, ks.length ≤ cap ∧ cap ≤ 9223372036854775807 ∧ S = .slice ao ks.length cap := by
    rcases hlen with ⟨h0, q, cap, rfl, h2⟩ | ⟨kb, ko, cap, rfl, h1, h2⟩
    · unfold maxLen at h2; exact ⟨q, cap, by omega, by omega, by rw [h0]⟩
    · unfold maxLen at h2; exact ⟨_, cap, h1, h2, rfl⟩
  rw [Nd.wt] at hs
  have hlw := len_wtL ks
  refine lend_walk (fun j v wr => ∃ L, LendP w k t x (.slice ao ks.length cap) a ks j v wr L) (fun v w2 => ∃ L, LendQ w k t x (.slice ao ks.length cap) a ks v w2 L) _ k t x ao ks.length cap hl hcap (by omega) a w (fun j hj => ?_) (fun w0 hown hg => ?_) (fun j v wr ⟨L, h⟩ => ⟨h.vars, h.kp.size, _, h.own⟩) (fun j v wr kb ko hao hj ⟨L, h⟩ => ?_) (fun v wr xs v' w2 ⟨L, h⟩ hx hown hg hfr => ?_) fun v w2 ⟨L, h⟩ => ?_
  · rcases hlen with ⟨h0, _⟩ | ⟨kb, ko, cap', e, _⟩
    · omega
    · injection e with e; exact ⟨kb, ko, e⟩
  · obtain ⟨hv, hk⟩ := wl_vars hg
    exact ⟨[], hv, hown, fun g e => by simp [Value.ownBlock] at e; omega, hk, rfl, fun i h hi => absurd hi (by simp)⟩
  · subst hao
    have hblk : ∀ i, R i → wr.heap[i]? = w.heap[i]? := fun i hi => h.kp.block i (hR i hi) fun e => e
    obtain ⟨d0, d1, d2, d3, d4, ⟨b', o', n', cap', e, hRb2, q0, q1, q2, q3, q4⟩, hnd2⟩ := KidsAt.at j hj hkk
    injection e with e1 e2 e3; injection e1 with e1; injection e1 with e4 e5; subst e4; subst e5
    rw [Nat.zero_add] at q0 q1 q2 q3 q4
    have hx := hblk _ hRb2
    have hwt := wtL_take ks j hj
    refine ⟨d0, d1, d2, d3, d4, (World.cell?_of_block hx).trans q0, (World.cell?_of_block hx).trans q1, (World.cell?_of_block hx).trans q2, (World.cell?_of_block hx).trans q3, (World.cell?_of_block hx).trans q4, (ih j hj R wr _ (fun i hi => Nat.lt_of_lt_of_le (hR i hi) h.kp.size) (hnd2.kept hblk) (by omega)).mono fun e w1 ⟨f0, f1, f2, f3, f4, he, h1c, hlent, hk1⟩ => ⟨f0, f1, f2, f3, f4, L.flatten, he, h1c, own_heap h.own (Nat.le_refl _) fun i hi => hk1.block i (h.own.lt i hi).2 fun e => e, Nat.le_trans h.kp.size hk1.size, fun v' w2 hown hg hfr => ⟨_, h.push hj hk1 hlent hown hg hfr⟩⟩⟩
  · have hxe : xs = L.flatten := own_unique hx h.own
    subst hxe
    exact ⟨L, h.last hown hg hfr⟩
  · refine ⟨h.vars, ?_⟩
    rcases h.own.2 with ⟨_, h0⟩ | ⟨g, c, cur, rfl, _, _, hc1, hc2, _⟩
    · omega
    · unfold maxLen at hc2
      exact ⟨g, c, rfl, hc1, by omega, fun w3 h1 h2 h3 h4 h5 => h.close hc1 (by omega) h1 h2 h3 h4 h5⟩
mutual
theorem lend_any : ∀ nd, LendOk nd
  | .mk k t x ks a => lend_node k t x ks a (lend_all ks)
theorem lend_all : ∀ (ks : List Nd) (i : Nat) (h : i < ks.length), LendOk ks[i]
  | [], _, h => absurd h (Nat.not_lt_zero _)
  | n :: _, 0, _ => lend_any n
  | _ :: r, i + 1, h => lend_all r i (Nat.lt_of_succ_lt_succ h)
end
end Go.Proofs.Ytfkgfibmhhlemaa
namespace Go.Proofs.Ytfkgfibmhhlemaa
open Go.RowKit Go.Maps Go.WideMaps
mutual
theorem exprC_insn (sl : List (List UInt8)) : ∀ (nd : Nd) (new : List Value), exprC sl nd = some new → Insn new
  | .mk k t x ks a, new, h => by
    rw [exprC] at h
    have ihL := exprL_insn sl ks
    split at h
    · split at h
      · cases h; exact (insn_ins _ _ _ _)
      · cases h
    split at h
    · split at h
      · cases h; exact (insn_ins _ _ _ _)
      · cases h
    split at h
    · split at h
      · cases hs : slotOf sl t.toList <;> rw [hs] at h <;> simp at h
        rw [← h]; exact (insn_ins _ _ _ _)
      · cases h
    split at h
    · split at h
      · split at h
        · cases hL : exprL sl ks with
          | none => rw [hL] at h; cases h
          | some c => rw [hL] at h; cases h; exact ((ihL c hL).append (insn_ins _ _ _ _))
        · cases h
      · cases h
    split at h
    · split at h
      · split at h
        · cases hL : exprL sl ks with
          | none => rw [hL] at h; cases h
          | some c => rw [hL] at h; cases h; exact ((ihL c hL).append (insn_ins _ _ _ _))
        · cases h
      · cases h
    split at h
    · split at h
      · cases hL : exprL sl ks with
        | none => rw [hL] at h; cases h
        | some c => rw [hL] at h; cases h; exact ((ihL c hL).append (insn_ins _ _ _ _))
      · cases h
    · cases h
theorem exprL_insn (sl : List (List UInt8)) : ∀ (ks : List Nd) (new : List Value), exprL sl ks = some new → Insn new
  | [], new, h => by rw [exprL] at h; cases h; exact .nil
  | n :: r, new, h => by
    rw [exprL] at h
    have h1 := exprC_insn sl n
    have h2 := exprL_insn sl r
    cases ha : exprC sl n with
    | none => rw [ha] at h; cases h
    | some a => cases hb : exprL sl r with
      | none => rw [ha, hb] at h; cases h
      | some b => rw [ha, hb] at h; cases h; exact (h1 a ha).append (h2 b hb)
end
mutual
theorem stmtC_insn : ∀ (nd : Nd) (n : Nat) (sl : List (List UInt8)) (o : Out), stmtC n sl nd = some o → Insn o.1
  | .mk k t x ks a, n, sl, o, h => by
    rw [stmtC.eq_def] at h
    simp only at h
    split at h
    · split at h
      · rename_i a1
        cases he : exprC sl a1 with
        | none => rw [he] at h; cases h
        | some e =>
          rw [he] at h
          cases hq : setC sl t.toList with
          | none => rw [hq] at h; cases h
          | some q => rw [hq] at h; cases h; exact ((exprC_insn sl a1 e he).append (insn_ins _ _ _ _))
      · cases h
    split at h
    · split at h
      · rename_i a1 b1 c1
        have hb := blockC_insn b1
        have hc := blockC_insn c1
        cases he : exprC sl a1 with
        | none => rw [he] at h; cases h
        | some e =>
          rw [he] at h
          simp only [Option.bind_some] at h
          cases hp : blockC (n + cnt e + 1) sl b1 with
          | none => rw [hp] at h; cases h
          | some p =>
            rw [hp] at h
            simp only [Option.bind_some] at h
            split at h
            · split at h
              · cases h; exact (((exprC_insn sl a1 e he).append (insn_ins _ _ _ _)).append (hb _ _ p hp))
              · cases h
            · cases hq : blockC (n + cnt e + 1 + cnt p.1 + 1) p.2 c1 with
              | none => rw [hq] at h; cases h
              | some q => rw [hq] at h; cases h; exact (((((exprC_insn sl a1 e he).append (insn_ins _ _ _ _)).append (hb _ _ p hp)).append (insn_ins _ _ _ _)).append (hc _ _ q hq))
      · cases h
    split at h
    · split at h
      · rename_i a1 b1
        have hb := blockC_insn b1
        cases he : exprC sl a1 with
        | none => rw [he] at h; cases h
        | some e =>
          rw [he] at h
          simp only [Option.bind_some] at h
          cases hp : blockC (n + cnt e + 1) sl b1 with
          | none => rw [hp] at h; cases h
          | some p => rw [hp] at h; cases h; exact ((((exprC_insn sl a1 e he).append (insn_ins _ _ _ _)).append (hb _ _ p hp)).append (insn_ins _ _ _ _))
      · cases h
    split at h
    · split at h
      · rename_i a1
        cases he : exprC sl a1 with
        | none => rw [he] at h; cases h
        | some e => rw [he] at h; cases h; exact ((exprC_insn sl a1 e he).append (insn_ins _ _ _ _))
      · cases h
    split at h
    · split at h
      · rename_i a1
        cases he : exprC sl a1 with
        | none => rw [he] at h; cases h
        | some e => rw [he] at h; cases h; exact ((exprC_insn sl a1 e he).append (insn_ins _ _ _ _))
      · cases h
    · cases h
theorem blockC_insn : ∀ (nd : Nd) (n : Nat) (sl : List (List UInt8)) (o : Out), blockC n sl nd = some o → Insn o.1
  | .mk k t x ks a, n, sl, o, h => by
    rw [blockC] at h
    have ih := stmtL_insn ks
    split at h
    · exact (ih n sl o h)
    · cases h
theorem stmtL_insn : ∀ (ks : List Nd) (n : Nat) (sl : List (List UInt8)) (o : Out), stmtL n sl ks = some o → Insn o.1
  | [], n, sl, o, h => by rw [stmtL] at h; cases h; exact .nil
  | a :: r, n, sl, o, h => by
    rw [stmtL] at h
    have h1 := stmtC_insn a
    have h2 := stmtL_insn r
    cases hp : stmtC n sl a with
    | none => rw [hp] at h; cases h
    | some p =>
      rw [hp] at h
      simp only [Option.bind_some] at h
      cases hq : stmtL (n + cnt p.1) p.2 r with
      | none => rw [hq] at h; cases h
      | some q => rw [hq] at h; cases h; exact ((h1 _ _ p hp).append (h2 _ _ q hq))
end
theorem scriptC_insn {nd : Nd} {code : List Value} (h : scriptC nd = some code) : Insn code ∧ 1 ≤ cnt code := by
  unfold scriptC at h
  cases hb : blockC 0 [] nd with
  | none => rw [hb] at h; cases h
  | some p =>
    rw [hb] at h
    cases h
    refine ⟨(blockC_insn nd 0 [] p hb).append (insn_ins _ _ _ _), ?_⟩
    unfold cnt
    rw [List.length_append]; simp
end Go.Proofs.Ytfkgfibmhhlemaa
namespace Go.Proofs.Ytfkgfibmhhlemaa
open Go.RowKit Go.Maps Go.WideMaps
theorem kp_below {w w' : World} (h : Below w.heap.size w w') : Kp (fun _ => False) w w' := ⟨h.os, h.tape, h.output, h.size, fun k hk _ => h.block k hk⟩
set_option maxRecDepth 100000 in
theorem num_any (z : Int) (w : World) : Calls Try.prog 12 #[.int .i64 z] w fun e w' => e = .returned (.int .i64 z) ∧ w' = w := by
  go_enter Try.func12, Try.ntmps12
  go_wp2
  go_ret
  exact ⟨rfl, rfl⟩
set_option maxRecDepth 100000 in
set_option maxHeartbeats 800000 in
theorem shallowtree_any (R : Nat → Prop) (nd : Nd) (V : Value) (w : World) (hR : ∀ k, R k → k < w.heap.size) (hn : NodeAt R w nd V) :
    Calls Try.prog 6 #[V] w fun e w' => e = .returned (.bool (shB 200 nd)) ∧ Kp (fun _ => False) w w' := by
  obtain ⟨k, t, x, ks, a, hnd⟩ := nd.eta
  have hn0 := hn
  rw [hnd] at hn
  obtain ⟨S, rfl, _, _⟩ := hn
  have hk0 := kp_alloc w (.cells #[.int .i64 k, .string t, .float .f64 x, S, .int .i64 a] 25)
  have hc := shallow_any 200 R nd _ (w.alloc (.cells #[.int .i64 k, .string t, .float .f64 x, S, .int .i64 a] 25)) (by decide) (fun j hj => Nat.lt_of_lt_of_le (hR j hj) hk0.size) (hn0.kept fun j hj => hk0.block j (hR j hj) fun e => e)
  go_enter Try.func6, Try.ntmps6
  go_wp2_with (go_at_call 16; refine hc.mono ?_; rintro e w1 ⟨rfl, hb⟩)
  go_ret
  exact ⟨by rw [hnd]; rfl, hk0.trans0 (kp_below hb)⟩
end Go.Proofs.Ytfkgfibmhhlemaa
namespace Go.Proofs.Ytfkgfibmhhlemaa
open Go.RowKit Go.Maps Go.WideMaps
abbrev Kp0 := Kp (fun _ => False)
/-- what was there stands; the draws may have gone on -/
structure Gr (w w' : World) : Prop where
  os : w'.os = w.os
  output : w'.output = w.output
  size : w.heap.size ≤ w'.heap.size
  block : ∀ k, k < w.heap.size → w'.heap[k]? = w.heap[k]?
theorem Gr.ahead {w w1 w' : World} (g : Gr w1 w') (h : Kp0 w w1) : Gr w w' := ⟨g.os.trans h.os, g.output.trans h.output, Nat.le_trans h.size g.size, fun k hk => (g.block k (Nat.lt_of_lt_of_le hk h.size)).trans (h.block k hk fun e => e)⟩
abbrev agg5 (k : Int) (t : ByteArray) (x : Nat) (S : Value) (a : Int) : Value := .agg #[.int .i64 k, .string t, .float .f64 x, S, .int .i64 a]
theorem box_kp {W w' : World} {s : Nat} {k : Int} {t : ByteArray} {x : Nat} {S : Value} {a : Int} (hb : W.heap[s]? = some (.cells #[.int .i64 k, .string t, .float .f64 x, S, .int .i64 a] 25)) (hk : Kp0 W w') : w'.heap[s]? = some (.cells #[.int .i64 k, .string t, .float .f64 x, S, .int .i64 a] 25) :=
  (hk.block s (Array.getElem?_eq_some_iff.1 hb).1 fun e => e).trans hb
/-- what the program's Script and the reference's Compile hand back -/
def Coded (w0 w : World) (code : List Value) (v : Value) : Prop := ∃ g c, v = .slice (some ⟨g, 0, none⟩) (cnt code) c ∧ w.ownsRow w0.heap.size 43 4 v (cnt code) code
theorem coded_of {w0 w : World} {code : List Value} {e : Ending} (h1 : 1 ≤ cnt code) (h : ScriptPost w0 (some code) e w) : ∃ g c, e = .returned (.tuple #[.slice (some ⟨g, 0, none⟩) (cnt code) c, .int .i64 0]) ∧ w.ownsRow w0.heap.size 43 4 (.slice (some ⟨g, 0, none⟩) (cnt code) c) (cnt code) code ∧ Kp0 w0 w := by
  obtain ⟨v, rfl, hown, hk⟩ := h
  rcases hown.2 with ⟨_, h0⟩ | ⟨g, cap, cur, rfl, _⟩
  · omega
  · exact ⟨g, cap, rfl, hown, hk⟩
theorem row_kp {w w' : World} {B e size n : Nat} {v : Value} {xs : List Value} (h : w.ownsRow B e size v n xs) (hk : Kp0 w w') : w'.ownsRow B e size v n xs := own_heap h (Nat.le_refl _) fun i hi => hk.block i (h.lt i hi).2 fun e => e
theorem row_spoilt {w w' : World} {g m B e size n : Nat} {v : Value} {xs : List Value} (h : w.ownsRow B e size v n xs) (hk : Spoilt w g m w') (hne : v.ownBlock ≠ some g) : w'.ownsRow B e size v n xs := own_heap h (Nat.le_refl _) fun i hi => hk.kp.block i (h.lt i hi).2 fun e => hne (by rw [← e]; exact hi)
theorem spoil_cells {w : World} {B g c : Nat} {code : List Value} (h : w.ownsRow B 43 4 (.slice (some ⟨g, 0, none⟩) (cnt code) c) (cnt code) code) (hi : Insn code) : ∀ j, j < cnt code → ∃ z, w.cell? ⟨g, j * 4, none⟩ = some (.int .i64 z) ∧ w.frozen? ⟨g, j * 4, none⟩ = false := fun j hj => by
  obtain ⟨op, arg, num, tx, e0, _⟩ := hi.at j (by rw [h.1]; omega)
  refine ⟨op, own_at h e0, ?_⟩
  rcases h.2 with ⟨e, _⟩ | ⟨g', cap', cur, e, _, hg, _⟩
  · cases e
  · injection e with e1 _ _; injection e1 with e1; injection e1 with e1; subst e1
    exact frozen_of hg _
theorem still_row {w w' : World} {B e size n : Nat} {v : Value} {xs : List Value} (h : w.ownsRow B e size v n xs) (hk : Still w w') : w'.ownsRow B e size v n xs := row_kp h hk.kp
theorem g_ne {w2a w3 w4 : World} {g1 g2 n c1 c2 m : Nat} {code code2 : List Value} (r1 : w3.ownsRow w2a.heap.size 43 4 (.slice (some ⟨g1, 0, none⟩) n c1) n code) (r2 : w4.ownsRow w3.heap.size 43 4 (.slice (some ⟨g2, 0, none⟩) m c2) m code2) : (Value.slice (some ⟨g2, 0, none⟩) m c2).ownBlock ≠ some g1 := fun e => by
  have a := (r1.lt g1 rfl).2
  have b := (r2.lt g2 rfl).1
  injection e with e
  have : g2 = g1 := e
  omega
theorem g_ne' {w2a w3 w4 w5 : World} {g1 g2 n c1 c2 m : Nat} {code code2 : List Value} (r1 : w3.ownsRow w2a.heap.size 43 4 (.slice (some ⟨g1, 0, none⟩) n c1) n code) (hk : Kp0 w3 w4) (r2 : w5.ownsRow w4.heap.size 43 4 (.slice (some ⟨g2, 0, none⟩) m c2) m code2) : (Value.slice (some ⟨g2, 0, none⟩) m c2).ownBlock ≠ some g1 := fun e => by
  have a := (r1.lt g1 rfl).2
  have b := (r2.lt g2 rfl).1
  have := hk.size
  injection e with e
  have : g2 = g1 := e
  omega
theorem kp_spoilt {w w2a w3 w7 w8 : World} {g1 n c1 : Nat} {code : List Value} {m : Nat} (hw7 : Kp0 w w7) (r1 : w3.ownsRow w2a.heap.size 43 4 (.slice (some ⟨g1, 0, none⟩) n c1) n code) (hw : Kp0 w w2a) (hs : Spoilt w7 g1 m w8) : Kp0 w w8 := by
  have hb := (r1.lt g1 rfl).1
  have hz := hw.size
  exact ⟨hs.kp.os.trans hw7.os, hs.kp.tape.trans hw7.tape, hs.kp.output.trans hw7.output, Nat.le_trans hw7.size hs.kp.size, fun i hi hf => (hs.kp.block i (Nat.lt_of_lt_of_le hi hw7.size) (by omega)).trans (hw7.block i hi hf)⟩
set_option maxRecDepth 100000 in
set_option maxHeartbeats 4000000 in
theorem trees_some (code : List Value) (hi : Insn code) (h1 : 1 ≤ cnt code) (hcm : cnt code ≤ 9223372036854775807) (k : Int) (t : ByteArray) (x : Nat) (S : Value) (a : Int) (w : World)
    (c6 : ∀ w1, Kp0 w w1 → Calls Try.prog 6 #[agg5 k t x S a] w1 fun e w' => e = .returned (.bool true) ∧ Kp0 w1 w')
    (c8 : ∀ w1, Kp0 w w1 → Calls Try.prog 8 #[agg5 k t x S a] w1 fun e w' => ∃ g o n c, e = .returned (agg5 k t x (.slice (some ⟨g, o, none⟩) n c) a) ∧ Kp0 w1 w' ∧ (∀ wr, Kp0 w' wr → Calls Try.prog 9 #[agg5 k t x (.slice (some ⟨g, o, none⟩) n c) a] wr (ScriptPost wr (some code))) ∧
      ∀ wr, Kp0 w' wr → Calls Try.prog 13 #[agg5 k t x (.slice (some ⟨g, o, none⟩) n c) a, agg5 k t x S a] wr fun e w2 => e = .returned (.bool true) ∧ Kp0 wr w2)
    (c10 : ∀ w1, Kp0 w w1 → Calls Try.prog 10 #[agg5 k t x S a] w1 (ScriptPost w1 (some code)))
    (c7 : ∀ w1, Kp0 w w1 → Calls Try.prog 7 #[] w1 fun e w' => e = .returned (.bool true) ∧ Gr w1 w') :
    Calls Try.prog 3 #[agg5 k t x S a] w fun e w' => e = .returned (.bool true) ∧ Gr w w' := by
  have hk0 : Kp0 w _ := kp_alloc w (.cells #[.int .i64 k, .string t, .float .f64 x, S, .int .i64 a] 25)
  have hb0 : (w.alloc (.cells #[.int .i64 k, .string t, .float .f64 x, S, .int .i64 a] 25)).heap[w.heap.size]? = _ := heap_alloc_new w _
  have c6a := c6 _ hk0
  have hsf : ∀ (w : World) (a : Addr), (store a (.float .f64 x)).run Try.prog w = stored Try.prog w a (.float .f64 x) .plain := fun w a => run_store _ w a _ _ rfl
  clear c6
  go_enter Try.func3, Try.ntmps3
  go_wp2_with (first
    | (go_at_call 6; refine Calls.mono c6a ?_; rintro e w1 ⟨rfl, hk1⟩; have hw1 := hk0.trans0 hk1; have hb1 := box_kp hb0 hk1; obtain ⟨y0, y1, y2, y3, y4⟩ := box5_of hb1; have c8a := c8 _ hw1; clear c6a c8)
    | (go_at_call 8; refine Calls.mono c8a ?_; rintro e w2 ⟨g, o, n, c, rfl, hk2, c9, c13⟩; have hka : Kp0 w2 _ := kp_alloc w2 (.cells #[.int .i64 k, .string t, .float .f64 x, .slice (some ⟨g, o, none⟩) n c, .int .i64 a] 25); have hbY : (w2.alloc (.cells #[.int .i64 k, .string t, .float .f64 x, .slice (some ⟨g, o, none⟩) n c, .int .i64 a] 25)).heap[w2.heap.size]? = _ := heap_alloc_new w2 _; have hb2 := box_kp hb1 (hk2.trans0 hka); have hw2 := hw1.trans0 hk2; have c9a := c9 _ hka; clear c8a)
    | (go_at_call 9; refine Calls.mono c9a ?_; intro e w3 h9; obtain ⟨g1, cc1, rfl, r1, hk3⟩ := coded_of h1 h9; have hbY3 := box_kp hbY hk3; have hb3 := box_kp hb2 hk3; obtain ⟨u0, u1, u2, u3, u4⟩ := box5_of hbY3; have c9b := c9 _ (hka.trans0 hk3); have hw3 := hw2.trans0 (hka.trans0 hk3); clear c9a h9)
    | (go_at_call 9; refine Calls.mono c9b ?_; intro e w4 h9; obtain ⟨g2, cc2, rfl, r2, hk4⟩ := coded_of h1 h9; have hbY4 := box_kp hbY3 hk4; have hb4 := box_kp hb3 hk4; obtain ⟨v0, v1, v2, v3, v4⟩ := box5_of hb4; have hw4 := hw3.trans0 hk4; have c10a := c10 _ hw4; clear c9b h9 c10)
    | (go_at_call 10; refine Calls.mono c10a ?_; intro e w5 h9; obtain ⟨g3, cc3, rfl, r3, hk5⟩ := coded_of h1 h9; have hbY5 := box_kp hbY4 hk5; have hb5 := box_kp hb4 hk5; have r1' := row_kp r1 (hk4.trans0 hk5); have r2' := row_kp r2 hk5; have hw5 := hw4.trans0 hk5; have s11a := sameins_any g1 cc1 g3 cc3 (cnt code) _ _ code w5 r1' r3 hi hcm; clear c10a h9)
    | (go_at_call 11; refine Calls.mono s11a ?_; rintro e w6 ⟨rfl, hs6⟩; obtain ⟨x0, x1, x2, x3, x4⟩ := box5_of (box_kp hb5 hs6.kp); obtain ⟨p0, p1, p2, p3, p4⟩ := box5_of (box_kp hbY5 hs6.kp); have hw6 := hw5.trans0 hs6.kp; have c13a := c13 w6 (hka.trans0 (hk3.trans0 (hk4.trans0 (hk5.trans0 hs6.kp)))); clear s11a)
    | (go_at_call 12; refine Calls.mono (num_any _ _) ?_; rintro e w' ⟨rfl, rfl⟩)
    | (go_at_call 13; refine Calls.mono c13a ?_; rintro e w7 ⟨rfl, hk7⟩; have r1'' := row_kp (still_row r1' hs6) hk7; have r2'' := row_kp (still_row r2' hs6) hk7; have r3'' := row_kp (still_row r3 hs6) hk7; have hw7 := hw6.trans0 hk7; have s14 := spoil_any g1 cc1 (cnt code) hcm w7 (spoil_cells r1'' hi); clear c13a)
    | (go_at_call 14; refine Calls.mono s14 ?_; rintro e w8 ⟨rfl, hs8⟩; have hg12 : (Value.slice (some ⟨g2, 0, none⟩) (cnt code) cc2).ownBlock ≠ some g1 := g_ne r1 r2; have hg13 : (Value.slice (some ⟨g3, 0, none⟩) (cnt code) cc3).ownBlock ≠ some g1 := g_ne' r1 hk4 r3; have s11b := sameins_any g2 cc2 g3 cc3 (cnt code) _ _ code w8 (row_spoilt r2'' hs8 hg12) (row_spoilt r3'' hs8 hg13) hi hcm; have hw8 := kp_spoilt hw7 r1 (hw2.trans0 hka) hs8; clear s14)
    | (go_at_call 11; refine Calls.mono s11b ?_; rintro e w9 ⟨rfl, hs9⟩; have hw9 := hw8.trans0 hs9.kp; have c7a := c7 w9 hw9; clear s11b)
    | (go_at_call 7; refine Calls.mono c7a ?_; rintro e w10 ⟨rfl, hk10⟩; clear c7a))
  go_ret
  exact ⟨rfl, hk10.ahead hw9⟩
end Go.Proofs.Ytfkgfibmhhlemaa

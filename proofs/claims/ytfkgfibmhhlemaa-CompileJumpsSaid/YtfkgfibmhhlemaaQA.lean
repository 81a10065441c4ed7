/- CompileTrees: a part of the proof (A0 A1 A2 A3 A4 A5 A6 A7 A8 A9). No conditions. -/
import Derived.Test.YtfkgfibmhhlemaaRows
import Derived.WalkKit
import Derived.WalkSpells
import Derived.WalkLawsBesides
import Derived.Deep.RegionLaw
import Derived.ArgAppend
namespace Go.Proofs.Ytfkgfibmhhlemaa
open Go.RowKit
set_option maxHeartbeats 400000 in
theorem fail_no (w : World) :
    Calls Try.prog 26 #[.bool false] w fun e w' => e = .returned (.tuple #[]) ∧ w' = w := by
  go_enter Try.func26, Try.ntmps26
  go_wp2
  go_end0
  exact ⟨rfl, rfl⟩
end Go.Proofs.Ytfkgfibmhhlemaa
namespace Go.Proofs.Ytfkgfibmhhlemaa
open Go.RowKit
set_option maxHeartbeats 400000 in
theorem kids_yes (b o : Nat) (B : Addr) (len cap : Nat) (w : World) (_h1 : len ≤ maxLen) (hc : w.cell? ⟨b, o + 3, none⟩ = some (.slice (some B) len cap)) :
    Calls Try.prog 39 #[.pointer (some ⟨b, o, none⟩), .int .i64 len] w fun e w' => e = .returned (.slice (some B) len cap) ∧ w' = w := by
  unfold maxLen at _h1
  go_enter Try.func39, Try.ntmps39
  go_wp2_with (go_at_call 26; refine (fail_no _).mono ?_; rintro e w' ⟨rfl, rfl⟩)
  go_ret
  exact ⟨rfl, rfl⟩
end Go.Proofs.Ytfkgfibmhhlemaa
namespace Go.Proofs.Ytfkgfibmhhlemaa
open Go.RowKit
/-- an append onto a row of the call's own, one element: where the row lies behind it -/
theorem run_own {P : Program} (w : World) (base : Nat) (t ty e : TypeId) (i : TypeInfo) (z : Value) (size bytes : Nat) (ht : P.underlying t = some (.slice e)) (hi : P.info? e = some i) (hz : i.zero = some z)
    (hsize : i.size = size) (hby : i.bytes = bytes) (hzs : z.cells.size = size) (hsz : 0 < size)
    (v : Value) (n : Nat) (xs : List Value) (hown : w.ownsRow base e size v n xs)
    (a : Addr) (c : Nat) (news : List Value) (hl : news.length = 1 * size) (hnews : ∀ j u, news[j]? = some u → w.cell? (a.add j) = some u) (h1 : ∀ u ∈ news, u.oneCell' = true)
    (h63 : n + 1 ≤ maxLen) (hbytes : (n + 1) * bytes ≤ 140737488355328) (hbase : base ≤ w.heap.size) :
    ∃ v' w', (Builtin.append_ #[t, t] ty #[v, .slice (some a) 1 c]).run P w = .ok v' w' ∧ w'.ownsRow base e size v' (n + 1) (xs ++ news) ∧ w.grownBy w' v.ownBlock ∧ ∀ k, v'.ownBlock = some k → v.ownBlock = some k ∨ w.heap.size ≤ k := by
  obtain ⟨v', w', hr, h2, h3, _⟩ := run_append_own (P := P) w base t ty e i z size bytes ht hi hz hsize hby hzs hsz v n xs hown a 1 c news hl hnews h1 h63 hbytes hbase
  refine ⟨v', w', hr, h2, h3, fun k hk => ?_⟩
  rcases hown.2 with ⟨rfl, rfl⟩ | ⟨g, cap, cur, rfl, hbg, hg, hnc, hcm, hcs, htake⟩
  · have hx : xs = [] := List.eq_nil_of_length_eq_zero (by simpa using hown.1)
    subst hx
    obtain ⟨v2, w2, hr2, k2, _⟩ := run_append_own (P := P) w w.heap.size t ty e i z size bytes ht hi hz hsize hby hzs hsz (.slice none 0 0) 0 [] (World.ownsRow_nil w _ e size) a 1 c news hl hnews h1 h63 hbytes (Nat.le_refl _)
    rw [hr] at hr2
    injection hr2 with e1 e2; subst e1; subst e2
    exact .inr (k2.lt k hk).1
  · by_cases hroom : n + 1 ≤ cap
    · have hfit : n * i.size + news.length ≤ cur.size := by rw [hl, hcs, hsize, ← Nat.add_mul]; exact Nat.mul_le_mul_right _ hroom
      have hr2 := run_append_room (P := P) w t ty e i ht hi g n cap cur hg a 1 c news (by rw [hsize]; exact hl) hnews h1 hroom hfit
      rw [hr] at hr2
      injection hr2 with e1 e2; subst e1
      exact .inl hk
    · obtain ⟨v2, w2, hr2, k2, _⟩ := run_append_arg_grows (P := P) w t ty e i z size bytes ht hi hz hsize hby hzs hsz ⟨g, 0, none⟩ n cap xs hown.1 (hown.cells (g := g) rfl) a 1 c news hl hnews (by omega) h63 hbytes
      rw [hr] at hr2
      injection hr2 with e1 e2; subst e1; subst e2
      exact .inr (k2.lt k hk).1
theorem step_own {P : Program} {ops : Array Oper} {o : Oper} {a : Act} {w : World} {K : Act → World → Prop} {Q : Exit → Act → World → Prop} {E : Prop}
    (hg : o.guard = none) (s x : Operand) (t : TypeId) (ho : o.op = .call { callee := .builtin .append, args := #[s, x], argTypes := #[t, t] })
    (base : Nat) (e : TypeId) (i : TypeInfo) (z : Value) (size bytes : Nat) (ht : P.underlying t = some (.slice e)) (hi : P.info? e = some i) (hz : i.zero = some z)
    (hsize : i.size = size) (hby : i.bytes = bytes) (hzs : z.cells.size = size) (hsz : 0 < size)
    (v : Value) (n : Nat) (xs : List Value) (hs : a.eval s = v) (hown : w.ownsRow base e size v n xs)
    (ad : Addr) (c : Nat) (news : List Value) (hx : a.eval x = .slice (some ad) 1 c) (hl : news.length = 1 * size) (hnews : ∀ j u, news[j]? = some u → w.cell? (ad.add j) = some u) (h1 : ∀ u ∈ news, u.oneCell' = true)
    (h63 : n + 1 ≤ maxLen) (hbytes : (n + 1) * bytes ≤ 140737488355328) (hbase : base ≤ w.heap.size)
    (h : ∀ v' w', w'.ownsRow base e size v' (n + 1) (xs ++ news) → w.grownBy w' v.ownBlock → (∀ k, v'.ownBlock = some k → v.ownBlock = some k ∨ w.heap.size ≤ k) → K (a.put o.dst v') w') :
    if Region.wanted o (yielded ops a.tmps) = true then Oper.wp P o a w K Q else E := by
  have hw : Region.wanted o (yielded ops a.tmps) = true := by simp [Region.wanted, hg]
  rw [if_pos hw]
  obtain ⟨v', w', hr, h2, h3, h4⟩ := run_own (P := P) w base t o.type e i z size bytes ht hi hz hsize hby hzs hsz v n xs hown ad c news hl hnews h1 h63 hbytes hbase
  unfold Oper.wp
  simp [execOp, ho, resolve, invoke, builtin, hs, hx, hr, Result.andThen]
  exact h v' w' h2 h3 h4
theorem own_slice {w : World} {base e size n : Nat} {v : Value} {xs : List Value} (h : World.ownsRow w base e size v n xs) : ∃ ao m c, v = .slice ao m c := by
  rcases h.2 with ⟨rfl, _⟩ | ⟨g, cap, cur, rfl, _⟩ <;> exact ⟨_, _, _, rfl⟩
theorem info43 : (Try.prog.info? 43).map (fun i => (i.zero, i.size, i.bytes)) = some (some (.agg #[.int .i64 0, .int .i64 0, .float .f64 0, .string ⟨#[]⟩]), 4, 40) := by kernel_rfl
theorem news4 (w : World) (k : Nat) (hk : k = w.heap.size) (a b c d : Value) : ∀ j u, [a, b, c, d][j]? = some u → (w.alloc (.cells #[a, b, c, d] 43)).cell? ((⟨k, 0, none⟩ : Addr).add j) = some u := by
  subst hk
  intro j u h
  have e : (⟨w.heap.size, 0, none⟩ : Addr).add j = ⟨w.heap.size, j, none⟩ := by simp [Addr.add]; exact Eq.symm
  rw [e, World.cell?_alloc_new]
  simpa using h
/-- what a call leaves alone: all but the blocks of S, and new ones -/
structure Kp (S : Nat → Prop) (w w' : World) : Prop where
  os : w'.os = w.os
  tape : w'.tape = w.tape
  output : w'.output = w.output
  size : w.heap.size ≤ w'.heap.size
  block : ∀ k, k < w.heap.size → ¬ S k → w'.heap[k]? = w.heap[k]?
end Go.Proofs.Ytfkgfibmhhlemaa
namespace Go.Proofs.Ytfkgfibmhhlemaa
open Go.RowKit
/-- the emitter (or the maker) at block b: its code -/
structure Em (w : World) (B b : Nat) (v : Value) (n : Nat) (xs : List Value) : Prop where
  cell : w.cell? ⟨b, 0, none⟩ = some v
  fz : w.frozen? ⟨b, 0, none⟩ = false
  own : w.ownsRow B 43 4 v n xs
  ne : v.ownBlock ≠ some b
def PutPost (w : World) (B b : Nat) (v : Value) (n : Nat) (xs : List Value) (e : Ending) (w' : World) : Prop := e = .returned (.tuple #[]) ∧
  ∃ v' : Value, Em w' B b v' n xs ∧ (∀ o, o ≠ 0 → w'.cell? ⟨b, o, none⟩ = w.cell? ⟨b, o, none⟩) ∧ (∀ o, w'.frozen? ⟨b, o, none⟩ = w.frozen? ⟨b, o, none⟩) ∧
    Kp (fun k => k = b ∨ v.ownBlock = some k) w w' ∧ ∀ k, v'.ownBlock = some k → v.ownBlock = some k ∨ w.heap.size ≤ k
theorem put_close {w w1 w2 : World} {B b n : Nat} {v v' : Value} {xs : List Value} {o1 o2 : Obj} (hc : w.cell? ⟨b, 0, none⟩ = some v) (hfz : w.frozen? ⟨b, 0, none⟩ = false) (hne : v.ownBlock ≠ some b)
    (hw1 : w1.heap = ((w.alloc o1).alloc o2).heap) (hos : w1.os = w.os) (htp : w1.tape = w.tape) (hout : w1.output = w.output) (hown : w2.ownsRow B 43 4 v' n xs) (hg : w1.grownBy w2 v.ownBlock) (hfr : ∀ k, v'.ownBlock = some k → v.ownBlock = some k ∨ w1.heap.size ≤ k) :
    PutPost w B b v n xs (.returned (.tuple #[])) (w2.setCell ⟨b, 0, none⟩ v') := by
  have hlt : b < w.heap.size := World.block_lt_of_cell? w _ hc
  have hsz : w1.heap.size = w.heap.size + 2 := by rw [hw1]; simp
  have h1 : ∀ k, k < w.heap.size → w1.heap[k]? = w.heap[k]? := fun k hk => by rw [hw1]; exact (heap_alloc_old _ _ (by simp; omega)).trans (heap_alloc_old w _ hk)
  have h2 : ∀ k, k < w.heap.size → v.ownBlock ≠ some k → w2.heap[k]? = w.heap[k]? := fun k hk hne => (hg.block k (by omega) (fun e => hne e.symm)).trans (h1 k hk)
  have h3 : ∀ k, k ≠ b → (w2.setCell ⟨b, 0, none⟩ v').heap[k]? = w2.heap[k]? := fun k hk => by simp [World.setCell, Array.getElem?_modify, hk.symm]
  have hb := h2 b hlt hne
  have hc2 : w2.cell? ⟨b, 0, none⟩ = some v := (World.cell?_of_block hb).trans hc
  have hne' : v'.ownBlock ≠ some b := fun e => by
    rcases hfr b e with h | h
    · exact hne h
    · omega
  refine ⟨rfl, v', ⟨World.cell?_setCell_same _ _ _ hc2, ?_, ?_, hne'⟩, fun o ho => ?_, fun o => ?_, ⟨?_, ?_, ?_, ?_, fun k hk hS => ?_⟩, fun k hk => ?_⟩
  · rw [World.frozen?_setCell]; exact (World.frozen?_of_block hb).trans hfz
  · exact hown.kept (row := some b) ⟨rfl, rfl, rfl, by simp [World.setCell], fun k _ hk => h3 k (fun e => hk (by rw [e]))⟩ (.inr hne')
  · exact (World.cell?_setCell_other _ _ _ _ (by simp)).trans (World.cell?_of_block hb)
  · rw [World.frozen?_setCell]; exact World.frozen?_of_block hb
  · exact hg.os.trans hos
  · exact hg.tape.trans htp
  · exact hg.output.trans hout
  · have := hg.size
    simp [World.setCell]; omega
  · exact (h3 k (fun e => hS (.inl e))).trans (h2 k hk (fun e => hS (.inr e)))
  · exact (hfr k hk).imp id (fun h => by omega)
set_option maxHeartbeats 400000 in
theorem put_any (B b : Nat) (v : Value) (n : Nat) (xs : List Value) (op arg : Int) (F : Value) (s : ByteArray) (w : World) (hbs : B ≤ w.heap.size) (hE : Em w B b v n xs) (hF : F.oneCell' = true)
    (h63 : n + 1 ≤ maxLen) (hby : (n + 1) * 40 ≤ 140737488355328) :
    Calls Try.prog 19 #[.pointer (some ⟨b, 0, none⟩), .agg #[.int .i64 op, .int .i64 arg, F, .string s]] w (PutPost w B b v (n + 1) (xs ++ [.int .i64 op, .int .i64 arg, F, .string s])) := by
  obtain ⟨hc, hfz, hown, hne⟩ := hE
  obtain ⟨i0, hi, hz0, hz1, hz2⟩ := info_parts info43
  have hlt := World.block_lt_of_cell? w _ hc
  have hca : ∀ o, (w.alloc o).cell? ⟨b, 0, none⟩ = some v := fun o => (World.cell?_of_block (heap_alloc_old w o hlt)).trans hc
  go_enter Try.func19, Try.ntmps19
  go_wp2
  go_region_law ((refine step_own rfl (.tmp 8) (.tmp 10) 29 rfl B 43 i0 _ 4 40 Try.underlying29 hi hz0 hz1 hz2 rfl (by decide) v n xs (by simp [Act.eval]) (by exact (show World.ownsRow _ B 43 4 v n xs from (hown.alloc _).alloc _)) ⟨w.heap.size + 1, 0, none⟩ 1 [.int .i64 op, .int .i64 arg, F, .string s] (by simp [Act.eval]) rfl (by exact news4 _ _ (by simp) _ _ _ _) (by intro u hu; simp at hu; rcases hu with rfl | rfl | rfl | rfl <;> first | exact hF | rfl) h63 hby (by simp; omega) ?_); intro v' w' hown' hgrow hfr; obtain ⟨ao, n', c', rfl⟩ := own_slice hown'; have hb' : w'.heap[b]? = w.heap[b]? := (hgrow.block b (by simp; omega) (fun e => hne e.symm)).trans ((heap_alloc_old _ _ (by simp; omega)).trans (heap_alloc_old w _ hlt)); have hcw : w'.cell? ⟨b, 0, none⟩ = some v := (World.cell?_of_block hb').trans hc; have hfw : w'.frozen? ⟨b, 0, none⟩ = false := (World.frozen?_of_block hb').trans hfz; clear hb' hca)
  all_goals
    go_end0
    exact put_close (o1 := .cells #[.int .i64 op, .int .i64 arg, F, .string s] 43) (o2 := .cells #[.int .i64 op, .int .i64 arg, F, .string s] 43) (w1 := (((w.alloc (.cells #[.int .i64 op, .int .i64 arg, F, .string s] 43)).alloc (.cells #[.int .i64 op, .int .i64 arg, F, .string s] 43)).drew)) hc hfz hne rfl rfl rfl rfl hown' hgrow hfr
end Go.Proofs.Ytfkgfibmhhlemaa
namespace Go.Proofs.Ytfkgfibmhhlemaa
open Go.RowKit
/-- a recipe's node -/
inductive Nd where
  | mk (k : Int) (t : ByteArray) (x : Nat) (ks : List Nd) (a : Int)
/-- a slice of n places: an empty one may lie anywhere -/
def SlAt (n : Nat) (S : Value) : Prop := (n = 0 ∧ ∃ ao cap, S = .slice ao 0 cap ∧ cap ≤ maxLen) ∨ ∃ b o cap, S = .slice (some ⟨b, o, none⟩) n cap ∧ n ≤ cap ∧ cap ≤ maxLen
def ElemAt (R : Nat → Prop) (w : World) (S : Value) (i : Nat) (c0 c1 c2 c3 c4 : Value) : Prop := ∃ b o n cap, S = .slice (some ⟨b, o, none⟩) n cap ∧ R b ∧
  w.cell? ⟨b, o + i * 5, none⟩ = some c0 ∧ w.cell? ⟨b, o + i * 5 + 1, none⟩ = some c1 ∧ w.cell? ⟨b, o + i * 5 + 2, none⟩ = some c2 ∧ w.cell? ⟨b, o + i * 5 + 3, none⟩ = some c3 ∧ w.cell? ⟨b, o + i * 5 + 4, none⟩ = some c4
mutual
def NodeAt (R : Nat → Prop) (w : World) : Nd → Value → Prop
  | .mk k t x ks a, V => ∃ S, V = .agg #[.int .i64 k, .string t, .float .f64 x, S, .int .i64 a] ∧ SlAt ks.length S ∧ KidsAt R w ks S 0
def KidsAt (R : Nat → Prop) (w : World) : List Nd → Value → Nat → Prop
  | [], _, _ => True
  | n :: r, S, i => (∃ c0 c1 c2 c3 c4, ElemAt R w S i c0 c1 c2 c3 c4 ∧ NodeAt R w n (.agg #[c0, c1, c2, c3, c4])) ∧ KidsAt R w r S (i + 1)
end
theorem ElemAt.kept {R : Nat → Prop} {w w' : World} (h : ∀ k, R k → w'.heap[k]? = w.heap[k]?) {S : Value} {i : Nat} {c0 c1 c2 c3 c4 : Value} (he : ElemAt R w S i c0 c1 c2 c3 c4) : ElemAt R w' S i c0 c1 c2 c3 c4 := by
  obtain ⟨b, o, n, cap, e, hr, h0, h1, h2, h3, h4⟩ := he
  have hb := h b hr
  exact ⟨b, o, n, cap, e, hr, (World.cell?_of_block hb).trans h0, (World.cell?_of_block hb).trans h1, (World.cell?_of_block hb).trans h2, (World.cell?_of_block hb).trans h3, (World.cell?_of_block hb).trans h4⟩
mutual
theorem NodeAt.kept {R : Nat → Prop} {w w' : World} (h : ∀ k, R k → w'.heap[k]? = w.heap[k]?) : ∀ {nd : Nd} {V : Value}, NodeAt R w nd V → NodeAt R w' nd V
  | .mk _ _ _ _ _, _, ⟨S, e, hs, hk⟩ => ⟨S, e, hs, KidsAt.kept h hk⟩
theorem KidsAt.kept {R : Nat → Prop} {w w' : World} (h : ∀ k, R k → w'.heap[k]? = w.heap[k]?) : ∀ {ks : List Nd} {S : Value} {i : Nat}, KidsAt R w ks S i → KidsAt R w' ks S i
  | [], _, _, _ => trivial
  | _ :: _, _, _, ⟨⟨c0, c1, c2, c3, c4, he, hn⟩, hr⟩ => ⟨⟨c0, c1, c2, c3, c4, he.kept h, NodeAt.kept h hn⟩, KidsAt.kept h hr⟩
end
theorem KidsAt.at {R : Nat → Prop} {w : World} {S : Value} : ∀ {ks : List Nd} {j : Nat} (i : Nat) (h : i < ks.length), KidsAt R w ks S j → ∃ c0 c1 c2 c3 c4, ElemAt R w S (j + i) c0 c1 c2 c3 c4 ∧ NodeAt R w ks[i] (.agg #[c0, c1, c2, c3, c4])
  | n :: r, j, 0, _, ⟨h, _⟩ => h
  | n :: r, j, i + 1, hi, ⟨_, h⟩ => by
    have := KidsAt.at (ks := r) (j := j + 1) i (by simpa using hi) h
    rw [show j + (i + 1) = j + 1 + i by omega]
    exact this
mutual
def shB : Nat → Nd → Bool
  | 0, _ => false
  | m + 1, .mk _ _ _ ks _ => shL m ks
def shL : Nat → List Nd → Bool
  | _, [] => true
  | m, n :: r => shB m n && shL m r
end
end Go.Proofs.Ytfkgfibmhhlemaa
namespace Go.Proofs.Ytfkgfibmhhlemaa
open Go.RowKit
set_option maxHeartbeats 400000 in
theorem shallow_zero (nd : Nd) (V : Value) (R : Nat → Prop) (w : World) (hn : NodeAt R w nd V) :
    Calls Try.prog 16 #[V, .int .i64 0] w fun e w' => e = .returned (.bool false) ∧ Below w.heap.size w w' := by
  cases nd
  obtain ⟨S, rfl, _, _⟩ := hn
  go_enter Try.func16, Try.ntmps16
  go_wp2
  go_ret
  exact ⟨rfl, (Below.refl _ _).alloc (Nat.le_refl _) _⟩
theorem shL_drop (m : Nat) (ks : List Nd) (k : Nat) (h : k < ks.length) : shL m (ks.drop k) = (shB m ks[k] && shL m (ks.drop (k + 1))) := by
  rw [List.drop_eq_getElem_cons h]; rfl
set_option maxHeartbeats 400000 in
theorem shallow_succ (m : Nat) (hm : m + 1 ≤ 9223372036854775807) (R : Nat → Prop) (k : Int) (t : ByteArray) (x : Nat) (ks : List Nd) (a : Int) (b o cap : Nat) (w : World)
    (hlen : ks.length ≤ cap) (hcap : cap ≤ 9223372036854775807) (hR : ∀ k, R k → k < w.heap.size) (hk : KidsAt R w ks (.slice (some ⟨b, o, none⟩) ks.length cap) 0)
    (ih : ∀ (nd : Nd) (V : Value) (w : World), (∀ k, R k → k < w.heap.size) → NodeAt R w nd V → Calls Try.prog 16 #[V, .int .i64 m] w fun e w' => e = .returned (.bool (shB m nd)) ∧ Below w.heap.size w w') :
    Calls Try.prog 16 #[.agg #[.int .i64 k, .string t, .float .f64 x, .slice (some ⟨b, o, none⟩) ks.length cap, .int .i64 a], .int .i64 (m + 1)] w fun e w' => e = .returned (.bool (shL m ks)) ∧ Below w.heap.size w w' := by
  have h0 : ((m : Int) + 1 == 0) = false := by simp; omega
  go_enter Try.func16, Try.ntmps16
  go_wp2
  go_loopw [4, 5] (fun r i wr => ∃ k : Nat, k ≤ ks.length ∧ r = .bool false ∧ i = .int .i64 k ∧ Hid (shL m ks = shL m (ks.drop k)) ∧ wr.cell? ⟨w.heap.size, 3, none⟩ = some (.slice (some ⟨b, o, none⟩) ks.length cap) ∧ Below w.heap.size w wr ∧ w.heap.size < wr.heap.size) (fun _ i _ => ks.length - (intOf i).toNat)
  case atStart => exact ⟨0, Nat.zero_le _, rfl, rfl, rfl, by simp, (Below.refl _ _).alloc (Nat.le_refl _) _, by simp⟩
  case round =>
    obtain ⟨k, hkl, rfl, rfl, hsh, hc, hb, hz⟩ := hrel
    by_cases hlt : k < ks.length
    · obtain ⟨c0, c1, c2, c3, c4, ⟨b', o', n', cap', e, hRb, h0, h1, h2, h3, h4⟩, hn⟩ := KidsAt.at k hlt hk
      obtain ⟨rfl, rfl, rfl, rfl⟩ : b' = b ∧ o' = o ∧ n' = ks.length ∧ cap' = cap := by injection e with e1 e2 e3; injection e1 with e1; injection e1 with e4 e5; exact ⟨e4.symm, e5.symm, e2.symm, e3.symm⟩
      rw [Nat.zero_add] at h0 h1 h2 h3 h4
      have hbl := hR _ hRb
      have g0 := (hb.cell (p := ⟨b', o' + k * 5, none⟩) hbl).trans h0
      have g1 := (hb.cell (p := ⟨b', o' + k * 5 + 1, none⟩) hbl).trans h1
      have g2 := (hb.cell (p := ⟨b', o' + k * 5 + 2, none⟩) hbl).trans h2
      have g3 := (hb.cell (p := ⟨b', o' + k * 5 + 3, none⟩) hbl).trans h3
      have g4 := (hb.cell (p := ⟨b', o' + k * 5 + 4, none⟩) hbl).trans h4
      clear h0 h1 h2 h3 h4
      have hn' : NodeAt R wr ks[k] (.agg #[c0, c1, c2, c3, c4]) := hn.kept fun j hj => hb.block j (hR j hj)
      have hc16 := ih ks[k] (.agg #[c0, c1, c2, c3, c4]) wr (fun j hj => Nat.lt_trans (hR j hj) hz) hn'
      cases hB : shB m ks[k]
      · rw [hB] at hc16
        have hres : Hid (shL m ks = false) := by have h1 : shL m ks = shL m (ks.drop k) := hsh; show _ = _; rw [h1, shL_drop m ks k hlt, hB]; rfl
        clear hsh hB
        go_wp2_with (go_at_call 16; refine hc16.mono ?_; rintro e w' ⟨rfl, hb2⟩)
        go_ret
        exact ⟨(congrArg (fun z => Ending.returned (Value.bool z)) (show shL m ks = false from hres)).symm, hb.trans (hb2.mono (by omega))⟩
      · rw [hB] at hc16
        have hres : Hid (shL m ks = shL m (ks.drop (k + 1))) := by have h1 : shL m ks = shL m (ks.drop k) := hsh; show _ = _; rw [h1, shL_drop m ks k hlt, hB]; rfl
        clear hsh hB
        go_wp2_with (go_at_call 16; refine hc16.mono ?_; rintro e w' ⟨rfl, hb2⟩)
        go_roundw
        case rel => exact ⟨k + 1, hlt, rfl, by go_num, hres, (hb2.cell (p := ⟨w.heap.size, 3, none⟩) hz).trans hc, hb.trans (hb2.mono (by omega)), by have := hb2.size; omega⟩
        case measure => simp [intOf]; omega
    · obtain rfl : k = ks.length := by omega
      have hres : Hid (shL m ks = true) := by have h1 : shL m ks = shL m (ks.drop ks.length) := hsh; show _ = _; rw [h1, List.drop_length]; rfl
      clear hsh
      go_wp2_with fail
      go_ret
      exact ⟨(congrArg (fun z => Ending.returned (Value.bool z)) (show shL m ks = true from hres)).symm, hb⟩
set_option maxHeartbeats 400000 in
theorem shallow_nil (m : Nat) (hm : m + 1 ≤ 9223372036854775807) (k : Int) (t : ByteArray) (x : Nat) (a : Int) (ao : Option Addr) (cap : Nat) (w : World) :
    Calls Try.prog 16 #[.agg #[.int .i64 k, .string t, .float .f64 x, .slice ao 0 cap, .int .i64 a], .int .i64 (m + 1)] w fun e w' => e = .returned (.bool true) ∧ Below w.heap.size w w' := by
  have h0 : ((m : Int) + 1 == 0) = false := by simp; omega
  go_enter Try.func16, Try.ntmps16
  go_wp2
  go_loopw [4, 5] (fun r i wr => r = .bool false ∧ i = .int .i64 0 ∧ wr.cell? ⟨w.heap.size, 3, none⟩ = some (.slice ao 0 cap) ∧ Below w.heap.size w wr) (fun _ _ _ => 0)
  case atStart => exact ⟨rfl, rfl, by simp, (Below.refl _ _).alloc (Nat.le_refl _) _⟩
  case round =>
    obtain ⟨rfl, rfl, hc, hb⟩ := hrel
    go_wp2_with fail
    go_ret
    exact ⟨rfl, hb⟩
theorem shallow_any : ∀ (m : Nat) (R : Nat → Prop) (nd : Nd) (V : Value) (w : World), m ≤ 9223372036854775807 → (∀ k, R k → k < w.heap.size) → NodeAt R w nd V →
    Calls Try.prog 16 #[V, .int .i64 m] w fun e w' => e = .returned (.bool (shB m nd)) ∧ Below w.heap.size w w'
  | 0, R, nd, V, w, _, _, hn => by
    have : shB 0 nd = false := by cases nd; rfl
    rw [this]; exact shallow_zero nd V R w hn
  | m + 1, R, .mk k t x ks a, V, w, hm, hR, ⟨S, e, hs, hk⟩ => by
    subst e
    rcases hs with ⟨h0, ao, cap, rfl, _⟩ | ⟨b, o, cap, rfl, hl, hc⟩
    · have : ks = [] := List.eq_nil_of_length_eq_zero h0
      subst this
      exact shallow_nil m hm k t x a ao cap w
    · exact shallow_succ m hm R k t x ks a b o cap w hl (by unfold maxLen at hc; omega) hR hk fun nd V w h1 h2 => shallow_any m R nd V w (by omega) h1 h2
end Go.Proofs.Ytfkgfibmhhlemaa
namespace Go.Proofs.Ytfkgfibmhhlemaa
open Go.RowKit
/-- what the compiler throws -/
abbrev thrown : Ending := .panicked [{ v := .iface 46 (.agg #[]), recovered := false }]
set_option maxHeartbeats 400000 in
theorem fail_yes (w : World) :
    Calls Try.prog 26 #[.bool true] w fun e w' => e = thrown ∧ w' = w := by
  go_enter Try.func26, Try.ntmps26
  go_wp2
  exact ⟨rfl, rfl, rfl⟩
set_option maxHeartbeats 400000 in
theorem kids_no (b o : Nat) (ao : Option Addr) (len cap many : Nat) (w : World) (_h1 : len ≤ maxLen) (_hm : many ≤ 3) (hne : len ≠ many) (hc : w.cell? ⟨b, o + 3, none⟩ = some (.slice ao len cap)) :
    Calls Try.prog 39 #[.pointer (some ⟨b, o, none⟩), .int .i64 many] w fun e w' => e = thrown ∧ w' = w := by
  unfold maxLen at _h1
  have hb : ((len : Int) != (many : Int)) = true := by simp; omega
  go_enter Try.func39, Try.ntmps39
  go_wp2_with (go_at_call 26; refine (fail_yes _).mono ?_; rintro e w' ⟨rfl, rfl⟩)
  exact ⟨rfl, rfl, rfl⟩
set_option maxHeartbeats 400000 in
theorem kids_ok (b o : Nat) (ao : Option Addr) (len cap : Nat) (w : World) (hc : w.cell? ⟨b, o + 3, none⟩ = some (.slice ao len cap)) :
    Calls Try.prog 39 #[.pointer (some ⟨b, o, none⟩), .int .i64 len] w fun e w' => e = .returned (.slice ao len cap) ∧ w' = w := by
  go_enter Try.func39, Try.ntmps39
  go_wp2_with (go_at_call 26; refine (fail_no _).mono ?_; rintro e w' ⟨rfl, rfl⟩)
  go_ret
  exact ⟨rfl, rfl⟩
end Go.Proofs.Ytfkgfibmhhlemaa
namespace Go.Proofs.Ytfkgfibmhhlemaa
open Go.RowKit
section
variable {w w' : World} {B b n : Nat} {v : Value} {xs : List Value}
theorem Em.lt (h : Em w B b v n xs) : b < w.heap.size := World.block_lt_of_cell? w _ h.cell
theorem Em.alloc (h : Em w B b v n xs) (o : Obj) : Em (w.alloc o) B b v n xs :=
  ⟨(World.cell?_of_block (heap_alloc_old w o h.lt)).trans h.cell, (World.frozen?_of_block (heap_alloc_old w o h.lt)).trans h.fz, h.own.alloc o, h.ne⟩
theorem Em.slice (h : Em w B b v n xs) : ∃ ao c, v = .slice ao n c := by
  rcases h.own.2 with ⟨e, h⟩ | ⟨g, cap, cur, e, _⟩
  · exact ⟨none, 0, by rw [e, h]⟩
  · exact ⟨_, _, e⟩
theorem Em.ownlt (h : Em w B b v n xs) {k : Nat} (e : v.ownBlock = some k) : k < w.heap.size := (h.own.lt k e).2
end
/-- what a piece of the compiler does to the emitter at b: it lays 'new' behind its code -/
structure Lays (w : World) (B b : Nat) (v : Value) (n : Nat) (xs new : List Value) (m : Nat) (v' : Value) (w' : World) : Prop where
  em : Em w' B b v' (n + m) (xs ++ new)
  cells : ∀ o, o ≠ 0 → w'.cell? ⟨b, o, none⟩ = w.cell? ⟨b, o, none⟩
  frozen : ∀ o, w'.frozen? ⟨b, o, none⟩ = w.frozen? ⟨b, o, none⟩
  kept : Kp (fun k => k = b ∨ v.ownBlock = some k) w w'
  fresh : ∀ k, v'.ownBlock = some k → v.ownBlock = some k ∨ w.heap.size ≤ k
def OpenPost (w : World) (B b : Nat) (v : Value) (n : Nat) (xs new : List Value) (e : Ending) (w' : World) : Prop := ∃ (e1 a1 : Nat) (v' : Value), e = .returned (.func (.func 51) #[] #[.pointer (some ⟨e1, 0, none⟩), .pointer (some ⟨a1, 0, none⟩)]) ∧
  w.heap.size ≤ e1 ∧ w.heap.size ≤ a1 ∧ e1 < w'.heap.size ∧ a1 < w'.heap.size ∧ v'.ownBlock ≠ some e1 ∧ v'.ownBlock ≠ some a1 ∧ w'.cell? ⟨e1, 0, none⟩ = some (.pointer (some ⟨b, 0, none⟩)) ∧ w'.cell? ⟨a1, 0, none⟩ = some (.int .i64 n) ∧ Lays w B b v n xs new 1 v' w'
theorem open_close {w w' : World} {B b n : Nat} {v : Value} {xs new : List Value} (hE : Em w B b v n xs) (hp : PutPost ((w.alloc (Obj.cells #[Value.pointer (some { block := b, off := 0 })] 48)).alloc (Obj.cells #[Value.int IntKind.i64 n] 3)) B b v (n + 1) (xs ++ new) (.returned (.tuple #[])) w') :
    OpenPost w B b v n xs new (.returned (.func (.func 51) #[] #[.pointer (some ⟨w.heap.size, 0, none⟩), .pointer (some ⟨w.heap.size + 1, 0, none⟩)])) w' := by
  obtain ⟨_, v', hE', hcs, hfs, hk, hfr⟩ := hp
  have hlt := hE.lt
  have h2 : ∀ k, k < w.heap.size → ((w.alloc (Obj.cells #[Value.pointer (some { block := b, off := 0 })] 48)).alloc (Obj.cells #[Value.int IntKind.i64 n] 3)).heap[k]? = w.heap[k]? := fun k hk => (heap_alloc_old _ _ (by simp; omega)).trans (heap_alloc_old w _ hk)
  have hs2 := hk.size
  simp at hs2 hfr
  have hown : ∀ k, w.heap.size ≤ k → v.ownBlock ≠ some k := fun k hk e => by have := hE.ownlt e; omega
  have hown' : ∀ k, w.heap.size ≤ k → k < w.heap.size + 2 → v'.ownBlock ≠ some k := fun k h1 h2 e => by
    rcases hfr k e with h | h
    · exact hown k h1 h
    · omega
  have hb1 := hk.block w.heap.size (by simp; omega) (fun h => h.elim (fun e => by omega) (hown _ (Nat.le_refl _)))
  have hb2 := hk.block (w.heap.size + 1) (by simp) (fun h => h.elim (fun e => by omega) (hown _ (by omega)))
  refine ⟨w.heap.size, w.heap.size + 1, v', rfl, Nat.le_refl _, by omega, by omega, by omega, hown' _ (Nat.le_refl _) (by omega), hown' _ (by omega) (by omega), ?_, ?_, hE', fun o ho => ?_, fun o => ?_, ⟨hk.os, hk.tape, hk.output, by omega, fun k hk1 hS => ?_⟩, fun k hk1 => (hfr k hk1).imp id (fun h => by omega)⟩
  · rw [World.cell?_of_block hb1, World.cell?_of_block (heap_alloc_old _ _ (by simp))]; simp
  · rw [World.cell?_of_block hb2]
    have : w.heap.size + 1 = (w.alloc (Obj.cells #[Value.pointer (some { block := b, off := 0 })] 48)).heap.size := by simp
    rw [this, World.cell?_alloc_new]; rfl
  · exact (hcs o ho).trans (World.cell?_of_block (h2 b hlt))
  · exact (hfs o).trans (World.frozen?_of_block (h2 b hlt))
  · exact (hk.block k (by simp; omega) hS).trans (h2 k hk1)
set_option maxHeartbeats 400000 in
theorem open_any (B b : Nat) (v : Value) (n : Nat) (xs : List Value) (op : Int) (w : World) (hbs : B ≤ w.heap.size) (hE : Em w B b v n xs)
    (h63 : n + 1 ≤ maxLen) (hby : (n + 1) * 40 ≤ 140737488355328) :
    Calls Try.prog 40 #[.pointer (some ⟨b, 0, none⟩), .int .i64 op] w (OpenPost w B b v n xs [.int .i64 op, .int .i64 0, .float .f64 0, .string ⟨#[]⟩]) := by
  have hp := put_any B b v n xs op 0 (.float .f64 0) ⟨#[]⟩ ((w.alloc (Obj.cells #[Value.pointer (some { block := b, off := 0 })] 48)).alloc (Obj.cells #[Value.int IntKind.i64 n] 3)) (by simp; omega) ((hE.alloc _).alloc _) rfl h63 hby
  have hcl := fun w' => open_close (w' := w') (new := [.int .i64 op, .int .i64 0, .float .f64 0, .string ⟨#[]⟩]) hE
  obtain ⟨ao, c', rfl⟩ := hE.slice
  have hc := hE.cell
  have hlt := hE.lt
  have hca : ∀ o, (w.alloc o).cell? ⟨b, 0, none⟩ = some (.slice ao n c') := fun o => (World.cell?_of_block (heap_alloc_old w o hlt)).trans hc
  go_enter Try.func40, Try.ntmps40
  go_wp2_with (go_at_call 19; refine hp.mono ?_; intro e w' hpp; obtain rfl : e = .returned (.tuple #[]) := hpp.1)
  go_ret
  exact hcl _ hpp
end Go.Proofs.Ytfkgfibmhhlemaa
namespace Go.Proofs.Ytfkgfibmhhlemaa
open Go.RowKit
/-- a cell of the code written over -/
theorem Em.set {w w' : World} {B b g n cap : Nat} {xs : List Value} (hE : Em w B b (.slice (some ⟨g, 0, none⟩) n cap) n xs) {i : Nat} (u : Value) (hw : w'.heap = (w.setCell ⟨g, i, none⟩ u).heap) :
    Em w' B b (.slice (some ⟨g, 0, none⟩) n cap) n (xs.set i u) := by
  have hgb : g ≠ b := fun e => hE.ne (by rw [← e]; rfl)
  have ho : ∀ k, k ≠ g → w'.heap[k]? = w.heap[k]? := fun k hk => by rw [hw]; simp [World.setCell, Array.getElem?_modify, hk.symm]
  refine ⟨(World.cell?_of_block (ho b hgb.symm)).trans hE.cell, (World.frozen?_of_block (ho b hgb.symm)).trans hE.fz, ?_, hE.ne⟩
  obtain ⟨hl, hq⟩ := hE.own
  refine ⟨by rw [List.length_set]; exact hl, ?_⟩
  rcases hq with ⟨e, _⟩ | ⟨g', cap', cur, e, h1, h2, h3, h4, h5, h6⟩
  · cases e
  · injection e with e1 _ e3; injection e1 with e1; injection e1 with e1; subst e1; subst e3
    refine .inr ⟨g, cap, cur.setIfInBounds i u, rfl, h1, ?_, h3, h4, by simpa using h5, ?_⟩
    · rw [hw]; simp [World.setCell, Array.getElem?_modify, h2]
    · rw [← h6, Array.toList_setIfInBounds, List.take_set]
theorem Em.at {w : World} {B b g n cap : Nat} {xs : List Value} (hE : Em w B b (.slice (some ⟨g, 0, none⟩) n cap) n xs) {i : Nat} (hi : i < n * 4) :
    w.cell? ⟨g, i, none⟩ = xs[i]? ∧ w.frozen? ⟨g, i, none⟩ = false ∧ (w.cell? ⟨g, i, none⟩).isSome = true := by
  rcases hE.own.2 with ⟨e, _⟩ | ⟨g', cap', cur, e, h1, h2, h3, h4, h5, h6⟩
  · cases e
  · injection e with e1 _ e3; injection e1 with e1; injection e1 with e1; subst e1; subst e3
    have hc : i < cur.size := by rw [h5]; exact Nat.lt_of_lt_of_le hi (Nat.mul_le_mul_right _ h3)
    refine ⟨?_, by simp [World.frozen?, h2], by simp [World.cell?, h2, hc]⟩
    rw [← h6, List.getElem?_take_of_lt hi]
    simp [World.cell?, h2]
/-- an open jump is told its place -/
structure Shuts (w : World) (B b : Nat) (v : Value) (n : Nat) (xs : List Value) (j : Nat) (w' : World) : Prop where
  em : Em w' B b v n (xs.set (j * 4 + 1) (.int .i64 n))
  other : ∀ k, v.ownBlock ≠ some k → w'.heap[k]? = w.heap[k]?
  os : w'.os = w.os
  tape : w'.tape = w.tape
  output : w'.output = w.output
  size : w'.heap.size = w.heap.size
def ClosePost (w : World) (B b : Nat) (v : Value) (n : Nat) (xs : List Value) (j : Nat) (e : Ending) (w' : World) : Prop := e = .returned (.tuple #[]) ∧ Shuts w B b v n xs j w'
set_option maxHeartbeats 400000 in
theorem close_any (B b e1 a1 j n : Nat) (v : Value) (xs : List Value) (w : World) (hE : Em w B b v n xs) (hj : j < n) (_hn : n ≤ 9223372036854775807) (hxs : ∀ u ∈ xs, u.oneCell' = true)
    (h1 : w.cell? ⟨e1, 0, none⟩ = some (.pointer (some ⟨b, 0, none⟩))) (h2 : w.cell? ⟨a1, 0, none⟩ = some (.int .i64 j)) :
    Calls Try.prog 51 #[.pointer (some ⟨e1, 0, none⟩), .pointer (some ⟨a1, 0, none⟩)] w (ClosePost w B b v n xs j) := by
  have hlen : xs.length = n * 4 := hE.own.1
  obtain ⟨g, cap, rfl⟩ : ∃ g cap, v = .slice (some ⟨g, 0, none⟩) n cap := by
    rcases hE.own.2 with ⟨_, h⟩ | ⟨g, cap, cur, e, _⟩
    · omega
    · exact ⟨g, cap, e⟩
  obtain ⟨ho, hof, hos⟩ := hE.at (i := j * 4 + 1) (by omega)
  rw [List.getElem?_eq_getElem (by omega)] at ho
  have hoc := hxs _ (List.getElem_mem (l := xs) (n := j * 4 + 1) (by omega))
  generalize xs[j * 4 + 1] = old at ho hoc
  have hcl : ∀ w', w' = (w.setCell { block := g, off := j * 4 + 1 } (Value.int IntKind.i64 ↑n)).drew → ClosePost w B b (.slice (some ⟨g, 0, none⟩) n cap) n xs j (.returned (.tuple #[])) w' := by
    rintro w' rfl
    exact ⟨rfl, hE.set _ rfl, fun k hk => by
      have : g ≠ k := fun e => hk (by rw [← e]; rfl)
      show (w.setCell _ _).heap[k]? = _
      simp [World.setCell, Array.getElem?_modify, this], rfl, rfl, rfl, by show (w.setCell _ _).heap.size = _; simp [World.setCell]⟩
  have hc := hE.cell
  clear hlen hos hxs hE
  go_enter Try.func51, Try.ntmps51
  go_region
  all_goals
    go_end0
    exact hcl _ rfl
end Go.Proofs.Ytfkgfibmhhlemaa
namespace Go.Proofs.Ytfkgfibmhhlemaa
open Go.RowKit
/-- an operator's instruction -/
def signO (s : ByteArray) : Option Int :=
  bif s.toList == [43] then some 7 else bif s.toList == [45] then some 8 else bif s.toList == [42] then some 9 else bif s.toList == [47] then some 10 else
  bif s.toList == [37] then some 11 else bif s.toList == [38] then some 12 else bif s.toList == [61, 61] then some 13 else bif s.toList == [60] then some 14 else none
def orThrown : Option Int → Ending
  | some k => .returned (.int .i64 k)
  | none => thrown
def SignPost (s : ByteArray) (w : World) (e : Ending) (w' : World) : Prop := e = orThrown (signO s) ∧ w' = w
theorem sign_close {s : ByteArray} {w : World} {o : Option Int} (h : signO s = o) : SignPost s w (orThrown o) w := ⟨by rw [h], rfl⟩
set_option maxHeartbeats 400000 in
theorem sign_any (s : ByteArray) (w : World) : Calls Try.prog 49 #[.string s] w (SignPost s w) := by
  go_enter Try.func49, Try.ntmps49
  go_wp2
  all_goals first
    | (go_ret; exact sign_close (o := some _) (by simp only [signO, *, cond_true, cond_false]))
    | exact ⟨rfl, sign_close (o := none) (by simp only [signO, *, cond_false])⟩
end Go.Proofs.Ytfkgfibmhhlemaa

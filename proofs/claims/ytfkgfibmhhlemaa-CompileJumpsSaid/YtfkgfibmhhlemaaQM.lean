/- CompileScripts: a part of the proof: the parser of the document, its small parts and expressions (M0 M1 M2 M3 M4 M5 M6 M7 M8 M9). No conditions. -/
import Derived.Test.YtfkgfibmhhlemaaQL
import Derived.BigQuiet
import Derived.Deep.RegionLaw
namespace Go.Proofs.Ytfkgfibmhhlemaa
open Go.RowKit Go.Maps Go.WideMaps
/-- a token -/
structure Tok where
  k : Int
  t : ByteArray
  x : Nat
  a : Int
abbrev Tok.V (t : Tok) : Value := .agg #[.int .i64 t.k, .string t.t, .float .f64 t.x, .int .i64 t.a]
abbrev noTok : Tok := ⟨0, ⟨#[]⟩, 0, -1⟩
/-- what is fixed of a parser: its tokens, where they lie, where it lies itself -/
structure Env where
  ts : List Tok
  ao : Option Addr
  cap : Nat
  pb : Nat
structure Env.ok (E : Env) : Prop where
  le : E.ts.length ≤ E.cap
  few : E.ts.length ≤ 65536
/-- the parser's state: at a token, with a first fault -/
structure St (E : Env) (w : World) (i : Nat) (c : Int) : Prop where
  ok : E.ok
  blk : ∃ a l b d : Int, w.heap[E.pb]? = some (.cells #[.slice E.ao E.ts.length E.cap, .int .i64 i, .int .i64 a, .int .i64 l, .int .i64 c, .int .i64 b, .int .i64 d] 66)
  toks : ∀ j (h : j < E.ts.length), ∃ tb o, E.ao = some ⟨tb, o, none⟩ ∧ tb ≠ E.pb ∧ w.cell? ⟨tb, o + j * 4, none⟩ = some (.int .i64 E.ts[j].k) ∧ w.cell? ⟨tb, o + j * 4 + 1, none⟩ = some (.string E.ts[j].t) ∧ w.cell? ⟨tb, o + j * 4 + 2, none⟩ = some (.float .f64 E.ts[j].x) ∧ w.cell? ⟨tb, o + j * 4 + 3, none⟩ = some (.int .i64 E.ts[j].a)
  len : i ≤ E.ts.length
/-- all but the parser stays -/
abbrev Ke (E : Env) := Kp (fun k => k = E.pb)
theorem St.lt {E : Env} {w : World} {i : Nat} {c : Int} (h : St E w i c) : E.pb < w.heap.size := by
  obtain ⟨_, _, _, _, hb⟩ := h.blk
  exact (Array.getElem?_eq_some_iff.1 hb).1
/-- a world in which the old blocks are as they were -/
theorem St.same {E : Env} {w w' : World} {i : Nat} {c : Int} (h : St E w i c) (hk : ∀ k, k < w.heap.size → w'.heap[k]? = w.heap[k]?) : St E w' i c := by
  obtain ⟨a, l, b, d, hb⟩ := h.blk
  refine ⟨h.ok, ⟨a, l, b, d, (hk _ h.lt).trans hb⟩, fun j hj => ?_, h.len⟩
  obtain ⟨tb, o, e, hn, h0, h1, h2, h3⟩ := h.toks j hj
  have ht := hk tb (World.block_lt_of_cell? w _ h0)
  exact ⟨tb, o, e, hn, (World.cell?_of_block ht).trans h0, (World.cell?_of_block ht).trans h1, (World.cell?_of_block ht).trans h2, (World.cell?_of_block ht).trans h3⟩
theorem St.kp {E : Env} {w w' : World} {i : Nat} {c : Int} (h : St E w i c) (hk : Kp (fun _ => False) w w') : St E w' i c := h.same fun k hk1 => hk.block k hk1 fun e => e
theorem St.alloc {E : Env} {w : World} {i : Nat} {c : Int} (h : St E w i c) (o : Obj) : St E (w.alloc o) i c := h.same fun _ hk => heap_alloc_old w o hk
theorem St.drew {E : Env} {w : World} {i : Nat} {c : Int} (h : St E w i c) : St E w.drew i c := h.same fun _ _ => rfl
/-- a cell of another block written -/
theorem St.other {E : Env} {w : World} {i : Nat} {c : Int} (h : St E w i c) {g o : Nat} {v : Value} (hp : g ≠ E.pb) (ht : ∀ tb oo, E.ao = some ⟨tb, oo, none⟩ → g ≠ tb) : St E (w.setCell ⟨g, o, none⟩ v) i c := by
  have hk : ∀ k, k ≠ g → (w.setCell ⟨g, o, none⟩ v).heap[k]? = w.heap[k]? := fun k hk => by simp [World.setCell, Array.getElem?_modify, hk.symm]
  obtain ⟨a, l, b, d, hb⟩ := h.blk
  refine ⟨h.ok, ⟨a, l, b, d, (hk _ (fun e => hp e.symm)).trans hb⟩, fun j hj => ?_, h.len⟩
  obtain ⟨tb, oo, e, hn, h0, h1, h2, h3⟩ := h.toks j hj
  have ht := hk tb fun e1 => ht tb oo e e1.symm
  exact ⟨tb, oo, e, hn, (World.cell?_of_block ht).trans h0, (World.cell?_of_block ht).trans h1, (World.cell?_of_block ht).trans h2, (World.cell?_of_block ht).trans h3⟩
/-- the parser's own block written over -/
theorem St.made {E : Env} {w w' : World} {i : Nat} {c : Int} (h : St E w i c) {i' : Nat} {c' : Int} (hl : i' ≤ E.ts.length) (hk : ∀ k, k < w.heap.size → k ≠ E.pb → w'.heap[k]? = w.heap[k]?)
    (hb : ∃ a l b d : Int, w'.heap[E.pb]? = some (.cells #[.slice E.ao E.ts.length E.cap, .int .i64 i', .int .i64 a, .int .i64 l, .int .i64 c', .int .i64 b, .int .i64 d] 66)) : St E w' i' c' := by
  refine ⟨h.ok, hb, fun j hj => ?_, hl⟩
  obtain ⟨tb, o, e, hn, h0, h1, h2, h3⟩ := h.toks j hj
  have ht := hk tb (World.block_lt_of_cell? w _ h0) hn
  exact ⟨tb, o, e, hn, (World.cell?_of_block ht).trans h0, (World.cell?_of_block ht).trans h1, (World.cell?_of_block ht).trans h2, (World.cell?_of_block ht).trans h3⟩
theorem ke_refl (E : Env) (w : World) : Ke E w w := kp_refl _ _
theorem ke_alloc (E : Env) (w : World) (o : Obj) : Ke E w (w.alloc o) := (kp_alloc w o).weak
theorem Kp.trans {S : Nat → Prop} {w w1 w2 : World} (h1 : Kp S w w1) (h2 : Kp S w1 w2) : Kp S w w2 :=
  ⟨h2.os.trans h1.os, h2.tape.trans h1.tape, h2.output.trans h1.output, Nat.le_trans h1.size h2.size, fun k hk hn => (h2.block k (Nat.lt_of_lt_of_le hk h1.size) hn).trans (h1.block k hk hn)⟩
theorem Kp.alloc {S : Nat → Prop} {w w1 : World} (h : Kp S w w1) (o : Obj) : Kp S w (w1.alloc o) := h.trans (kp_alloc w1 o).weak
theorem Kp.drewM {w w' : World} {S : Nat → Prop} (h : Kp S w w') (n : Nat) : Kp S w (w'.drewN n) := ⟨h.os, h.tape, h.output, h.size, h.block⟩
theorem Kp.drewO {w w' : World} {S : Nat → Prop} (h : Kp S w w') : Kp S w w'.drew := ⟨h.os, h.tape, h.output, h.size, h.block⟩
/-- a block of the call's own written -/
theorem Kp.own {S : Nat → Prop} {w w1 w2 : World} {g : Nat} (h : Kp S w w1) (h2 : Kp (fun k => k = g) w1 w2) (hg : w.heap.size ≤ g) : Kp S w w2 :=
  ⟨h2.os.trans h.os, h2.tape.trans h.tape, h2.output.trans h.output, Nat.le_trans h.size h2.size, fun k hk hn => (h2.block k (Nat.lt_of_lt_of_le hk h.size) (by omega)).trans (h.block k hk hn)⟩
theorem set_far {w : World} {g j : Nat} (hn : j ≠ g) (o : Nat) (v : Value) : (w.setCell ⟨g, o, none⟩ v).heap[j]? = w.heap[j]? := by simp [World.setCell, Array.getElem?_modify, hn.symm]
theorem kp_set1 (w : World) (g o : Nat) (v : Value) : Kp (fun k => k = g) w (w.setCell ⟨g, o, none⟩ v) := ⟨rfl, rfl, rfl, by simp [World.setCell], fun _ _ hn => set_far hn _ _⟩
/-- the token that is next -/
def tk (E : Env) (i : Nat) (c : Int) : Tok := if c = 0 then (E.ts[i]?).getD noTok else noTok
/-- what a look ahead does to the fault -/
structure Same (E : Env) (i : Nat) (c c' : Int) : Prop where
  dead : c ≠ 0 → c' ≠ 0
  live : c = 0 → i < E.ts.length → c' = 0
theorem Same.refl (E : Env) (i : Nat) (c : Int) : Same E i c c := ⟨fun h => h, fun h _ => h⟩
theorem Same.trans {E : Env} {i : Nat} {c c1 c2 : Int} (h1 : Same E i c c1) (h2 : Same E i c1 c2) : Same E i c c2 := ⟨fun h => h2.dead (h1.dead h), fun h hi => h2.live (h1.live h hi) hi⟩
theorem Same.tk {E : Env} {i : Nat} {c c' : Int} (h : Same E i c c') : tk E i c' = tk E i c := by
  unfold Ytfkgfibmhhlemaa.tk
  by_cases hc : c = 0
  · by_cases hi : i < E.ts.length
    · rw [if_pos hc, if_pos (h.live hc hi)]
    · rw [if_pos hc, List.getElem?_eq_none (by omega)]
      simp
  · rw [if_neg hc, if_neg (h.dead hc)]
theorem tk_live {E : Env} {i : Nat} {c : Int} (h : (tk E i c).k ≠ 0) : c = 0 ∧ i < E.ts.length := by
  unfold tk at h
  split at h
  · rename_i hc
    refine ⟨hc, ?_⟩
    by_cases hi : i < E.ts.length
    · exact hi
    · rw [List.getElem?_eq_none (by omega)] at h; exact absurd rfl h
  · exact absurd rfl h
theorem Same.zero {E : Env} {i : Nat} {c c' : Int} (h : Same E i c c') (hc : c' = 0) : c = 0 := by
  by_cases h0 : c = 0
  · exact h0
  · exact absurd hc (h.dead h0)
theorem set_blk {w : World} {b : Nat} {cs : Array Value} {ty : TypeId} (h : w.heap[b]? = some (.cells cs ty)) (o : Nat) (v : Value) : (w.setCell ⟨b, o, none⟩ v).heap[b]? = some (.cells (cs.setIfInBounds o v) ty) := by
  simp [World.setCell, Array.getElem?_modify, h]
set_option maxHeartbeats 400000 in
theorem fault_any (E : Env) (i : Nat) (c code a : Int) (w : World) (h : St E w i c) :
    Calls Try.prog 31 #[pt E.pb 0, .int .i64 code, .int .i64 a] w fun e w' => e = .returned (.tuple #[]) ∧ St E w' i (if c = 0 then code else c) ∧ Ke E w w' ∧ w'.heap.size = w.heap.size := by
  obtain ⟨a0, l, b, d, hb⟩ := h.blk
  have c4 := cell_of hb 4 (.int .i64 c) rfl
  have c5 := cell_of hb 5 (.int .i64 b) rfl
  have z := frozen_of hb
  by_cases hc : c = 0
  · subst hc
    have hfin : St E ((w.setCell ⟨E.pb, 4, none⟩ (.int .i64 code)).setCell ⟨E.pb, 5, none⟩ (.int .i64 a)) i (if (0 : Int) = 0 then code else 0) ∧ Ke E w ((w.setCell ⟨E.pb, 4, none⟩ (.int .i64 code)).setCell ⟨E.pb, 5, none⟩ (.int .i64 a)) := by
      refine ⟨h.made h.len (fun k _ hn => ?_) ⟨a0, l, a, d, ?_⟩, (kp_set1 w E.pb 4 _).trans (kp_set1 _ E.pb 5 _)⟩
      · simp [World.setCell, Array.getElem?_modify, Ne.symm hn]
      · exact set_blk (set_blk hb 4 _) 5 _
    clear hb h
    go_enter Try.func31, Try.ntmps31
    go_wp2
    go_end0
    exact ⟨rfl, hfin.1, hfin.2, by simp⟩
  · have hc' : (c == 0) = false := by simpa using hc
    rw [if_neg hc]
    go_enter Try.func31, Try.ntmps31
    go_wp2
    go_end0
    exact ⟨rfl, h, ke_refl _ _, rfl⟩
end Go.Proofs.Ytfkgfibmhhlemaa
namespace Go.Proofs.Ytfkgfibmhhlemaa
open Go.RowKit Go.Maps Go.WideMaps
def TPost (E : Env) (i : Nat) (c : Int) (w : World) (e : Ending) (w' : World) : Prop := e = .returned (tk E i c).V ∧ ∃ c', Same E i c c' ∧ St E w' i c' ∧ Ke E w w' ∧ w.heap.size ≤ w'.heap.size
theorem store_f (x : Nat) (w : World) (a : Addr) : (store a (.float .f64 x)).run Try.prog w = stored Try.prog w a (.float .f64 x) .plain := run_store _ w a _ _ rfl
theorem size68 : (Try.prog.info? 68).map (·.size) = some 4 := by kernel_rfl
theorem size25s : (Try.prog.info? 25).map (·.size) = some 5 := by kernel_rfl
theorem end4 {fn : Func} (hr : fn.results = #[.cell 2 68]) {W : World} {g : Nat} {cs : Array Value} {Q : Ending → World → Prop} {tmps : Array Value} (hh : W.heap[g]? = some (.cells cs 68)) (ht : tmps.getD 2 undef = .pointer (some ⟨g, 0, none⟩)) (hQ : Q (.returned (.agg cs)) W) (hcs : cs.size = 4 := by rfl) : bodyPost Try.prog fn Q .ret { tmps := tmps, defers := [] } W :=
  bodyPost_ret (results_cell_row hr tmps W g 68 cs (0, 0) _ ht hh Try.underlying68 rfl (by rw [size68, hcs])) rfl hQ
theorem end5 {fn : Func} (hr : fn.results = #[.cell 2 25]) {W : World} {g : Nat} {cs : Array Value} {Q : Ending → World → Prop} {tmps : Array Value} (hh : W.heap[g]? = some (.cells cs 25)) (ht : tmps.getD 2 undef = .pointer (some ⟨g, 0, none⟩)) (hQ : Q (.returned (.agg cs)) W) (hcs : cs.size = 5 := by rfl) : bodyPost Try.prog fn Q .ret { tmps := tmps, defers := [] } W :=
  bodyPost_ret (results_cell_row hr tmps W g 25 cs (0, 0) _ ht hh Try.underlying25 rfl (by rw [size25s, hcs])) rfl hQ
/-- a row of four, of five cells -/
theorem row4 {w : World} {g : Nat} {a b c d : Value} {ty : TypeId} (h : w.heap[g]? = some (.cells #[a, b, c, d] ty)) : (w.cell? ⟨g, 0, none⟩ = some a ∧ w.cell? ⟨g, 1, none⟩ = some b ∧ w.cell? ⟨g, 2, none⟩ = some c ∧ w.cell? ⟨g, 3, none⟩ = some d) ∧
    (w.frozen? ⟨g, 0, none⟩ = false ∧ w.frozen? ⟨g, 1, none⟩ = false ∧ w.frozen? ⟨g, 2, none⟩ = false ∧ w.frozen? ⟨g, 3, none⟩ = false) :=
  ⟨⟨cell_of h 0 _ rfl, cell_of h 1 _ rfl, cell_of h 2 _ rfl, cell_of h 3 _ rfl⟩, frozen_of h 0, frozen_of h 1, frozen_of h 2, frozen_of h 3⟩
theorem row5 {w : World} {g : Nat} {a b c d e : Value} {ty : TypeId} (h : w.heap[g]? = some (.cells #[a, b, c, d, e] ty)) : (w.cell? ⟨g, 0, none⟩ = some a ∧ w.cell? ⟨g, 1, none⟩ = some b ∧ w.cell? ⟨g, 2, none⟩ = some c ∧ w.cell? ⟨g, 3, none⟩ = some d ∧ w.cell? ⟨g, 4, none⟩ = some e) ∧
    (w.frozen? ⟨g, 0, none⟩ = false ∧ w.frozen? ⟨g, 1, none⟩ = false ∧ w.frozen? ⟨g, 2, none⟩ = false ∧ w.frozen? ⟨g, 3, none⟩ = false ∧ w.frozen? ⟨g, 4, none⟩ = false) :=
  ⟨⟨cell_of h 0 _ rfl, cell_of h 1 _ rfl, cell_of h 2 _ rfl, cell_of h 3 _ rfl, cell_of h 4 _ rfl⟩, frozen_of h 0, frozen_of h 1, frozen_of h 2, frozen_of h 3, frozen_of h 4⟩
abbrev sets4 (w : World) (g : Nat) (a b c d : Value) : World := (((w.setCell ⟨g, 0, none⟩ a).setCell ⟨g, 1, none⟩ b).setCell ⟨g, 2, none⟩ c).setCell ⟨g, 3, none⟩ d
abbrev sets5 (w : World) (g : Nat) (a b c d e : Value) : World := ((((w.setCell ⟨g, 0, none⟩ a).setCell ⟨g, 1, none⟩ b).setCell ⟨g, 2, none⟩ c).setCell ⟨g, 3, none⟩ d).setCell ⟨g, 4, none⟩ e
theorem sets4_row {w : World} {g : Nat} {a b c d a' b' c' d' : Value} {ty : TypeId} (h : w.heap[g]? = some (.cells #[a, b, c, d] ty)) : (sets4 w g a' b' c' d').heap[g]? = some (.cells #[a', b', c', d'] ty) := set_blk (set_blk (set_blk (set_blk h 0 _) 1 _) 2 _) 3 _
theorem sets5_row {w : World} {g : Nat} {a b c d e a' b' c' d' e' : Value} {ty : TypeId} (h : w.heap[g]? = some (.cells #[a, b, c, d, e] ty)) : (sets5 w g a' b' c' d' e').heap[g]? = some (.cells #[a', b', c', d', e'] ty) := set_blk (set_blk (set_blk (set_blk (set_blk h 0 _) 1 _) 2 _) 3 _) 4 _
theorem kp_sets4 (w : World) (g : Nat) (a b c d : Value) : Kp (fun k => k = g) w (sets4 w g a b c d) := (((kp_set1 w g 0 a).trans (kp_set1 _ g 1 b)).trans (kp_set1 _ g 2 c)).trans (kp_set1 _ g 3 d)
theorem kp_sets5 (w : World) (g : Nat) (a b c d e : Value) : Kp (fun k => k = g) w (sets5 w g a b c d e) := ((((kp_set1 w g 0 a).trans (kp_set1 _ g 1 b)).trans (kp_set1 _ g 2 c)).trans (kp_set1 _ g 3 d)).trans (kp_set1 _ g 4 e)
theorem St.own {E : Env} {w : World} {i : Nat} {c : Int} (h : St E w i c) {w1 w2 : World} {j : Nat} {c1 : Int} (h1 : St E w1 j c1) {g : Nat} (h2 : Kp (fun k => k = g) w1 w2) (hg : w.heap.size ≤ g) : St E w2 j c1 := by
  have hp : E.pb ≠ g := by have := h.lt; omega
  obtain ⟨a, l, b, d, hb⟩ := h1.blk
  refine ⟨h1.ok, ⟨a, l, b, d, (h2.block _ h1.lt hp).trans hb⟩, fun j hj => ?_, h1.len⟩
  obtain ⟨tb, o, e, hn, q0, q1, q2, q3⟩ := h1.toks j hj
  obtain ⟨tb', o', e', _, q0', _⟩ := h.toks j hj
  rw [e] at e'
  cases e'
  have hl := World.block_lt_of_cell? w _ q0'
  simp only at hl
  have ht := h2.block tb (World.block_lt_of_cell? w1 _ q0) (by omega)
  exact ⟨tb, o, e, hn, (World.cell?_of_block ht).trans q0, (World.cell?_of_block ht).trans q1, (World.cell?_of_block ht).trans q2, (World.cell?_of_block ht).trans q3⟩
set_option maxHeartbeats 400000 in
theorem t_dead (E : Env) (i : Nat) (c : Int) (hc : c ≠ 0) (w : World) (h : St E w i c) : Calls Try.prog 24 #[pt E.pb 0] w (TPost E i c w) := by
  obtain ⟨a0, l, b, d, hb⟩ := h.blk
  have hlt := h.lt
  have c4 := cell_of hb 4 (.int .i64 c) rfl
  have hc' : (c != 0) = true := by simpa using hc
  have hf : noTok = tk E i c := (if_neg hc).symm
  have hfin : TPost E i c w (.returned noTok.V) (w.alloc (.cells #[.int .i64 0, .string ⟨#[]⟩, .float .f64 0, .int .i64 (-1)] 68)) :=
    ⟨congrArg (fun t : Tok => Ending.returned t.V) hf, c, Same.refl _ _ _, h.alloc _, ke_alloc _ _ _, by simp⟩
  have hsf := store_f
  clear hb
  go_enter Try.func24, Try.ntmps24
  go_wp2_with fail
  exact end4 rfl (heap_alloc_new w _) rfl hfin
set_option maxHeartbeats 400000 in
theorem t_live (E : Env) (i : Nat) (hi : i < E.ts.length) (w : World) (h : St E w i 0) : Calls Try.prog 24 #[pt E.pb 0] w (TPost E i 0 w) := by
  obtain ⟨a0, l, b, d, hb⟩ := h.blk
  have hlt := h.lt
  have c0 := cell_of hb 0 (.slice E.ao E.ts.length E.cap) rfl
  have c1 := cell_of hb 1 (.int .i64 i) rfl
  have c4 := cell_of hb 4 (.int .i64 0) rfl
  obtain ⟨tb, o, hao, hn, h0, h1, h2, h3⟩ := h.toks i hi
  have htl := World.block_lt_of_cell? w _ h0
  rw [hao] at c0
  have hf : tk E i 0 = E.ts[i] := by unfold tk; simp [hi]
  generalize E.ts[i] = T at *
  have hfin : ∀ W, Kp (fun _ => False) w W → TPost E i 0 w (.returned T.V) W := fun W hk =>
    ⟨congrArg (fun t : Tok => Ending.returned t.V) hf.symm, 0, Same.refl _ _ _, h.kp hk, hk.weak, hk.size⟩
  have hnew : ∀ n, ((((((w.alloc (.cells #[.int .i64 0, .string ⟨#[]⟩, .float .f64 0, .int .i64 0] 68)).drewN n).setCell ⟨w.heap.size, 0, none⟩ (.int .i64 T.k)).setCell ⟨w.heap.size, 1, none⟩ (.string T.t)).setCell ⟨w.heap.size, 2, none⟩ (.float .f64 T.x)).setCell ⟨w.heap.size, 3, none⟩ (.int .i64 T.a)).heap[w.heap.size]? = some (.cells #[.int .i64 T.k, .string T.t, .float .f64 T.x, .int .i64 T.a] 68) := fun n =>
    set_blk (set_blk (set_blk (set_blk (w := (w.alloc (.cells #[.int .i64 0, .string ⟨#[]⟩, .float .f64 0, .int .i64 0] 68)).drewN n) (heap_alloc_new w _) 0 _) 1 _) 2 _) 3 _
  clear hb
  have hsf := store_f
  go_enter Try.func24, Try.ntmps24
  go_wp2_with fail
  go_quiet (fail)
  go_wp2_with fail
  go_region
  all_goals
    go_wp2_with fail
    exact end4 rfl (hnew _) rfl (hfin _ (kp_set (kp_set (kp_set (kp_set ((kp_alloc w _).drewM _) (Nat.le_refl _) _ _) (Nat.le_refl _) _ _) (Nat.le_refl _) _ _) (Nat.le_refl _) _ _))
set_option maxHeartbeats 400000 in
theorem t_edge (E : Env) (i : Nat) (hi : ¬ i < E.ts.length) (w : World) (h : St E w i 0) : Calls Try.prog 24 #[pt E.pb 0] w (TPost E i 0 w) := by
  obtain ⟨a0, l, b, d, hb⟩ := h.blk
  have hlt := h.lt
  have c0 := cell_of hb 0 (.slice E.ao E.ts.length E.cap) rfl
  have c1 := cell_of hb 1 (.int .i64 i) rfl
  have c2 := cell_of hb 2 (.int .i64 a0) rfl
  have c3 := cell_of hb 3 (.int .i64 l) rfl
  have c4 := cell_of hb 4 (.int .i64 0) rfl
  have hf : noTok = tk E i 0 := by unfold tk; rw [if_pos rfl, List.getElem?_eq_none (by omega)]; rfl
  have hd : decide ((i : Int) < (E.ts.length : Int)) = false := by simp; omega
  have hcall : ∀ w1, Kp (fun _ => False) w w1 → Calls Try.prog 31 #[pt E.pb 0, .int .i64 l, .int .i64 a0] w1 fun e w' => e = .returned (.tuple #[]) ∧ St E w' i l ∧ Ke E w1 w' ∧ w'.heap.size = w1.heap.size := fun w1 h1 => fault_any E i 0 l a0 w1 (h.kp h1)
  have hfin : ∀ W, St E W i l → Ke E w W → TPost E i 0 w (.returned noTok.V) W := fun W hs hk =>
    ⟨congrArg (fun t : Tok => Ending.returned t.V) hf, l, ⟨fun h => absurd rfl h, fun _ h => absurd h hi⟩, hs, hk, hk.size⟩
  have hsf := store_f
  have h0 := h
  clear hb h
  go_enter Try.func24, Try.ntmps24
  go_wp2_with fail
  go_quiet (fail)
  go_wp2_with fail
  go_region_with (go_at_call 31; refine Calls.mono (hcall _ ((kp_alloc w _).drewM _)) ?_; rintro e w1 ⟨rfl, h1, h2, h3⟩; have hr := (h2.block w.heap.size (by simp [World.drewN]) (by omega)).trans (heap_alloc_new w _); obtain ⟨⟨p0, p1, p2, p3⟩, z0, z1, z2, z3⟩ := row4 hr)
  all_goals
    go_wp2_with fail
    exact end4 rfl (sets4_row hr) rfl (hfin _ (St.own h0 h1 (kp_sets4 _ _ _ _ _ _) (Nat.le_refl _)) ((((kp_alloc w _).drewM _).weak.trans h2).own (kp_sets4 _ _ _ _ _ _) (Nat.le_refl _)))
theorem t_any (E : Env) (i : Nat) (c : Int) (w : World) (h : St E w i c) : Calls Try.prog 24 #[pt E.pb 0] w (TPost E i c w) := by
  by_cases hc : c = 0
  · subst hc
    by_cases hi : i < E.ts.length
    · exact t_live E i hi w h
    · exact t_edge E i hi w h
  · exact t_dead E i c hc w h
end Go.Proofs.Ytfkgfibmhhlemaa
namespace Go.Proofs.Ytfkgfibmhhlemaa
open Go.RowKit Go.Maps Go.WideMaps
/-- what a look ahead leaves -/
structure Look (E : Env) (i : Nat) (c : Int) (w w' : World) : Prop where
  st : ∃ c', Same E i c c' ∧ St E w' i c'
  ke : Ke E w w'
theorem Look.kp {E : Env} {i : Nat} {c : Int} {w w1 w2 : World} (h : Look E i c w w1) (hk : Kp (fun _ => False) w1 w2) : Look E i c w w2 := by
  obtain ⟨⟨c', h2, h3⟩, h4⟩ := h
  exact ⟨⟨c', h2, h3.kp hk⟩, h4.trans hk.weak⟩
theorem Look.from {E : Env} {i : Nat} {c : Int} {w w1 w2 : World} (h : Look E i c w1 w2) (hk : Kp (fun _ => False) w w1) : Look E i c w w2 := ⟨h.st, hk.weak.trans h.ke⟩
theorem look_t (E : Env) (i : Nat) (c : Int) (w : World) (h : St E w i c) : Calls Try.prog 24 #[pt E.pb 0] w fun e w' => e = .returned (tk E i c).V ∧ Look E i c w w' :=
  (t_any E i c w h).mono fun _ _ ⟨h1, c', h2, h3, h4, _⟩ => ⟨h1, ⟨c', h2, h3⟩, h4⟩
def isOf (k : Int) (T : Tok) (s : ByteArray) : Bool := T.k == k && T.t.toList == s.toList
set_option maxHeartbeats 400000 in
theorem psign_any (E : Env) (i : Nat) (c : Int) (s : ByteArray) (w : World) (h : St E w i c) :
    Calls Try.prog 46 #[pt E.pb 0, .string s] w fun e w' => e = .returned (.bool (isOf 4 (tk E i c) s)) ∧ Look E i c w w' := by
  have ht := look_t E i c w h
  unfold isOf
  generalize tk E i c = T at *
  cases hk : (T.k == 4) <;> cases hs : (T.t.toList == s.toList)
  all_goals
    have hsf := store_f
    go_enter Try.func46, Try.ntmps46
    go_wp2_with (go_at_call 24; refine Calls.mono ht ?_; rintro e w1 ⟨rfl, h1⟩; have h2 := Look.kp h1 (kp_alloc w1 (.cells #[.int .i64 T.k, .string T.t, .float .f64 T.x, .int .i64 T.a] 68)))
    go_ret
    exact ⟨rfl, h2⟩
set_option maxHeartbeats 400000 in
theorem pword_any (E : Env) (i : Nat) (c : Int) (s : ByteArray) (w : World) (h : St E w i c) :
    Calls Try.prog 32 #[pt E.pb 0, .string s] w fun e w' => e = .returned (.bool (isOf 1 (tk E i c) s)) ∧ Look E i c w w' := by
  have ht := look_t E i c w h
  unfold isOf
  generalize tk E i c = T at *
  cases hk : (T.k == 1) <;> cases hs : (T.t.toList == s.toList)
  all_goals
    have hsf := store_f
    go_enter Try.func32, Try.ntmps32
    go_wp2_with (go_at_call 24; refine Calls.mono ht ?_; rintro e w1 ⟨rfl, h1⟩; have h2 := Look.kp h1 (kp_alloc w1 (.cells #[.int .i64 T.k, .string T.t, .float .f64 T.x, .int .i64 T.a] 68)))
    go_ret
    exact ⟨rfl, h2⟩
/-- the parser has its fault -/
structure Dead (E : Env) (i : Nat) (w w' : World) : Prop where
  st : ∃ c', c' ≠ 0 ∧ St E w' i c'
  ke : Ke E w w'
set_option maxHeartbeats 400000 in
theorem wrong_any (E : Env) (i : Nat) (c : Int) (w : World) (h : St E w i c) :
    Calls Try.prog 37 #[pt E.pb 0] w fun e w' => e = .returned (.tuple #[]) ∧ Dead E i w w' := by
  have ht := look_t E i c w h
  generalize tk E i c = T at *
  have hf : ∀ w1, Look E i c w w1 → Calls Try.prog 31 #[pt E.pb 0, .int .i64 1900, .int .i64 T.a] (w1.alloc (.cells #[.int .i64 T.k, .string T.t, .float .f64 T.x, .int .i64 T.a] 68)) fun e w' => e = .returned (.tuple #[]) ∧ Dead E i w w' := fun w1 h1 => by
    obtain ⟨⟨c', _, h3⟩, h4⟩ := h1
    refine (fault_any E i c' 1900 T.a _ (h3.alloc _)).mono ?_
    rintro e w' ⟨he, h5, h6, _⟩
    refine ⟨he, ⟨_, ?_, h5⟩, (h4.alloc _).trans h6⟩
    split <;> omega
  have hsf := store_f
  go_enter Try.func37, Try.ntmps37
  go_wp2_with (first | (go_at_call 24; refine Calls.mono ht ?_; rintro e w1 ⟨rfl, h1⟩; replace hf := hf _ h1) | (go_at_call 31; refine Calls.mono hf ?_; rintro e w2 ⟨rfl, h2⟩))
  go_end0
  exact ⟨rfl, h2⟩
/-- the parser's place moved on -/
theorem St.moved {E : Env} {w : World} {i : Nat} {c : Int} (h : St E w i c) (hi : i < E.ts.length) : St E (w.setCell ⟨E.pb, 1, none⟩ (.int .i64 (i + 1))) (i + 1) c := by
  obtain ⟨a0, l, b, d, hb⟩ := h.blk
  exact h.made hi (fun k _ hn => set_far hn _ _) ⟨a0, l, b, d, set_blk hb 1 _⟩
def MustPost (E : Env) (i : Nat) (c : Int) (s : ByteArray) (w w' : World) : Prop := Ke E w w' ∧ ((isOf 4 (tk E i c) s = true ∧ St E w' (i + 1) 0) ∨ ∃ c', c' ≠ 0 ∧ St E w' i c')
theorem isOf_live {E : Env} {i : Nat} {c k : Int} {s : ByteArray} (hk : k ≠ 0) (h : isOf k (tk E i c) s = true) : c = 0 ∧ i < E.ts.length := by
  refine tk_live fun e => ?_
  unfold isOf at h
  rw [e] at h
  simp [hk.symm] at h
theorem Look.live {E : Env} {i : Nat} {c : Int} {w w' : World} (h : Look E i c w w') (hc : c = 0) (hi : i < E.ts.length) : St E w' i 0 := by
  obtain ⟨c', h2, h3⟩ := h.st
  rw [← h2.live hc hi]; exact h3
set_option maxHeartbeats 400000 in
theorem must_any (E : Env) (i : Nat) (c : Int) (s : ByteArray) (w : World) (h : St E w i c) :
    Calls Try.prog 34 #[pt E.pb 0, .string s] w fun e w' => e = .returned (.tuple #[]) ∧ MustPost E i c s w w' := by
  have hs := psign_any E i c s w h
  cases hb : isOf 4 (tk E i c) s
  · rw [hb] at hs
    have hw : ∀ w1, Look E i c w w1 → Calls Try.prog 37 #[pt E.pb 0] w1 fun e w' => e = .returned (.tuple #[]) ∧ MustPost E i c s w w' := fun w1 h1 => by
      obtain ⟨c', _, h3⟩ := h1.st
      exact (wrong_any E i c' w1 h3).mono fun e w' ⟨he, hd⟩ => ⟨he, h1.ke.trans hd.ke, .inr hd.st⟩
    go_enter Try.func34, Try.ntmps34
    go_wp2_with (first | (go_at_call 46; refine Calls.mono hs ?_; rintro e w1 ⟨rfl, h1⟩; replace hw := hw _ h1) | (go_at_call 37; refine Calls.mono hw ?_; rintro e w2 ⟨rfl, h2⟩))
    exact bodyPost_ret (results_none rfl _ _ _) rfl ⟨rfl, h2⟩
  · rw [hb] at hs
    obtain ⟨rfl, hi⟩ := isOf_live (by decide) hb
    have hl := h.ok.few
    go_enter Try.func34, Try.ntmps34
    go_wp2_with (go_at_call 46; refine Calls.mono hs ?_; rintro e w1 ⟨rfl, h1⟩; have h2 := h1.live rfl hi; obtain ⟨a0, l, b, d, hblk⟩ := h2.blk; have c1 := cell_of hblk 1 (.int .i64 i) rfl; have z1 := frozen_of hblk 1; clear hblk)
    go_end0
    exact ⟨rfl, h1.ke.trans (kp_set1 _ _ _ _), .inl ⟨hb, h2.moved hi⟩⟩
end Go.Proofs.Ytfkgfibmhhlemaa
namespace Go.Proofs.Ytfkgfibmhhlemaa
open Go.RowKit Go.Maps Go.WideMaps
def words : Array Value := #[.string ⟨#[102, 114, 111, 109]⟩, .string ⟨#[97, 115]⟩, .string ⟨#[99, 111, 112, 121]⟩, .string ⟨#[114, 117, 110]⟩, .string ⟨#[119, 111, 114, 107, 100, 105, 114]⟩, .string ⟨#[109, 107, 100, 105, 114]⟩, .string ⟨#[114, 101, 109, 111, 118, 101]⟩, .string ⟨#[115, 101, 116]⟩, .string ⟨#[105, 102]⟩, .string ⟨#[101, 108, 115, 101]⟩, .string ⟨#[119, 104, 105, 108, 101]⟩, .string ⟨#[100, 111]⟩, .string ⟨#[102, 97, 105, 108]⟩]
theorem words_at : ∀ k, k < 13 → ∃ s, words[k]? = some (.string s)
  | 0, _ => ⟨_, rfl⟩
  | 1, _ => ⟨_, rfl⟩
  | 2, _ => ⟨_, rfl⟩
  | 3, _ => ⟨_, rfl⟩
  | 4, _ => ⟨_, rfl⟩
  | 5, _ => ⟨_, rfl⟩
  | 6, _ => ⟨_, rfl⟩
  | 7, _ => ⟨_, rfl⟩
  | 8, _ => ⟨_, rfl⟩
  | 9, _ => ⟨_, rfl⟩
  | 10, _ => ⟨_, rfl⟩
  | 11, _ => ⟨_, rfl⟩
  | 12, _ => ⟨_, rfl⟩
  | k + 13, h => absurd h (by omega)
set_option maxRecDepth 100000 in
set_option maxHeartbeats 1600000 in
theorem pkept_any (s : ByteArray) (w : World) : Calls Try.prog 45 #[.string s] w fun e w' => (∃ b, e = .returned (.bool b)) ∧ Kp (fun _ => False) w w' := by
  have hat : ∀ k, k < 13 → ∃ t, (w.alloc (.cells words 9)).cell? ⟨w.heap.size, k, none⟩ = some (.string t) := fun k hk => by
    obtain ⟨t, ht⟩ := words_at k hk
    exact ⟨t, (World.cell?_alloc_new w _ _ _).trans ht⟩
  have hkp := kp_alloc w (.cells words 9)
  go_enter Try.func45, Try.ntmps45
  go_wp2_with fail
  have hW : ∃ W, W = w.alloc (.cells words 9) := ⟨_, rfl⟩
  obtain ⟨W, hW⟩ := hW
  rw [← hW] at hat hkp
  unfold words at hW
  simp only [← hW]
  go_loopw [4] (fun i wr => ∃ (k : Nat), i = .int .i64 k ∧ k ≤ 13 ∧ wr = W) (fun i _ => 13 - (intOf i).toNat)
  case atStart => exact ⟨0, rfl, by omega, rfl⟩
  case round =>
    obtain ⟨k, rfl, hk, rfl⟩ := hrel
    clear hW
    by_cases hlt : k < 13
    · obtain ⟨t, hcell⟩ := hat k hlt
      clear hat
      cases hB : (t.toList == s.toList) with
      | true =>
        go_wp2_with fail
        go_ret
        exact ⟨⟨_, rfl⟩, hkp⟩
      | false =>
        go_wp2_with fail
        exact ⟨⟨k + 1, by simp, by omega, trivial⟩, by simp [intOf]; omega⟩
    · obtain rfl : k = 13 := by omega
      clear hat
      go_wp2_with fail
      go_ret
      exact ⟨⟨_, rfl⟩, hkp⟩
set_option maxHeartbeats 800000 in
theorem into_any (E : Env) (i : Nat) (c a : Int) (w : World) (h : St E w i c) :
    Calls Try.prog 48 #[pt E.pb 0, .int .i64 a] w fun e w' => Ke E w w' ∧ ((e = .returned (.bool true) ∧ St E w' i c) ∨ (e = .returned (.bool false) ∧ ∃ c', c' ≠ 0 ∧ St E w' i c')) := by
  obtain ⟨a0, l, b, d, hb⟩ := h.blk
  have c6 := cell_of hb 6 (.int .i64 d) rfl
  have z6 := frozen_of hb 6
  cases hd : decide ((40 : Int) < d)
  · have hfin : ∀ d', St E (w.setCell ⟨E.pb, 6, none⟩ (.int .i64 d')) i c := fun d' => h.made h.len (fun k _ hn => set_far hn _ _) ⟨a0, l, b, d', set_blk hb 6 _⟩
    clear hb h
    go_enter Try.func48, Try.ntmps48
    go_wp2_with fail
    go_ret
    exact ⟨kp_set1 _ _ _ _, .inl ⟨rfl, hfin _⟩⟩
  · have hf := fault_any E i c 1901 a w h
    clear hb h
    go_enter Try.func48, Try.ntmps48
    go_wp2_with (go_at_call 31; refine Calls.mono hf ?_; rintro e w1 ⟨rfl, h1, h2, _⟩)
    go_ret
    exact ⟨h2, .inr ⟨rfl, _, by split <;> omega, h1⟩⟩
def NamePost (E : Env) (i : Nat) (c : Int) (w : World) (e : Ending) (w' : World) : Prop := Ke E w w' ∧ ((c = 0 ∧ i < E.ts.length ∧ e = .returned (.tuple #[.string (tk E i c).t, .int .i64 (tk E i c).a]) ∧ St E w' (i + 1) 0) ∨ (∃ c', c' ≠ 0 ∧ e = .returned (.tuple #[.string ⟨#[]⟩, .int .i64 0]) ∧ St E w' i c'))
set_option maxHeartbeats 800000 in
theorem name_any (E : Env) (i : Nat) (c : Int) (w : World) (h : St E w i c) : Calls Try.prog 33 #[pt E.pb 0] w (NamePost E i c w) := by
  have ht := look_t E i c w h
  have hl : (tk E i c).k = 1 → c = 0 ∧ i < E.ts.length := fun e => tk_live (by rw [e]; decide)
  unfold NamePost
  generalize tk E i c = T at *
  have hw : ∀ w1 w2, Look E i c w w1 → Kp (fun _ => False) w1 w2 → Calls Try.prog 37 #[pt E.pb 0] w2 fun e w' => e = .returned (.tuple #[]) ∧ Dead E i w w' := fun w1 w2 h1 h2 => by
    obtain ⟨⟨c', _, h3⟩, h4⟩ := h1
    exact (wrong_any E i c' w2 (h3.kp h2)).mono fun e w' ⟨he, h5, h6⟩ => ⟨he, h5, (h4.trans h2.weak).trans h6⟩
  cases hk : (T.k != 1)
  · have hk1 : T.k = 1 := by simpa using hk
    obtain ⟨hc, hi⟩ := hl hk1
    have hlen := h.ok.few
    have hsf := store_f
    have hkp := pkept_any T.t
    go_enter Try.func33, Try.ntmps33
    go_wp2_with (first | (go_at_call 24; refine Calls.mono ht ?_; rintro e w1 ⟨rfl, h1⟩; clear ht) | (go_at_call 45; refine Calls.mono (hkp _) ?_; rintro e w2 ⟨⟨b, rfl⟩, h2⟩; have hk2 := (kp_alloc w1 _).trans h2; have hrow := row4 ((h2.block w1.heap.size (by simp) (fun e => e)).trans (heap_alloc_new w1 _)); clear hkp; obtain ⟨⟨p0, p1, p2, p3⟩, z0, z1, z2, z3⟩ := hrow; have hst := (h1.live hc hi).kp hk2; obtain ⟨a0, l, b0, d, hblk⟩ := hst.blk; have c1 := cell_of hblk 1 (.int .i64 i) rfl; have zf := frozen_of hblk 1; have hne : E.pb < w1.heap.size := (h1.live hc hi).lt; clear hblk; cases b) | (go_at_call 37; refine Calls.mono (hw w1 _ h1 hk2) ?_; rintro e w3 ⟨rfl, h3⟩))
    · have q1 : ∀ o v, o = 0 ∨ o = 1 ∨ o = 2 ∨ o = 3 → (w2.setCell ⟨E.pb, 1, none⟩ v).cell? ⟨w1.heap.size, o, none⟩ = w2.cell? ⟨w1.heap.size, o, none⟩ := fun o v _ => World.cell?_setCell_other _ _ _ _ (by simp only [ne_eq, Addr.mk.injEq, not_and]; omega)
      have q1a := q1 1 (.int .i64 (i + 1)) (by simp)
      have q1b := q1 3 (.int .i64 (i + 1)) (by simp)
      rw [p1] at q1a
      rw [p3] at q1b
      go_quiet (fail)
      go_wp2_with fail
      go_ret2
      exact ⟨((h1.ke.trans hk2.weak).trans (kp_set1 _ _ _ _)).drewM _, .inl ⟨hc, hi, rfl, (hst.moved hi).same fun _ _ => rfl⟩⟩
    · go_ret2
      exact ⟨h3.ke, .inr ⟨_, h3.st.choose_spec.1, rfl, h3.st.choose_spec.2⟩⟩
  · have hsf := store_f
    go_enter Try.func33, Try.ntmps33
    go_wp2_with (first | (go_at_call 24; refine Calls.mono ht ?_; rintro e w1 ⟨rfl, h1⟩; clear ht) | (go_at_call 37; refine Calls.mono (hw w1 _ h1 (kp_alloc w1 _)) ?_; rintro e w2 ⟨rfl, h2⟩))
    go_ret2
    exact ⟨h2.ke, .inr ⟨_, h2.st.choose_spec.1, rfl, h2.st.choose_spec.2⟩⟩
end Go.Proofs.Ytfkgfibmhhlemaa
namespace Go.Proofs.Ytfkgfibmhhlemaa
open Go.RowKit Go.Maps Go.WideMaps
theorem Look.sign {E : Env} {i : Nat} {c : Int} {w w1 : World} (h : Look E i c w w1) (s : ByteArray) : Calls Try.prog 46 #[pt E.pb 0, .string s] w1 fun e w' => e = .returned (.bool (isOf 4 (tk E i c) s)) ∧ Look E i c w w' ∧ Ke E w1 w' := by
  obtain ⟨⟨c', h2, h3⟩, h4⟩ := h
  refine (psign_any E i c' s w1 h3).mono ?_
  rintro e w' ⟨rfl, ⟨c2, h5, h6⟩, h7⟩
  exact ⟨by rw [h2.tk], ⟨⟨c2, h2.trans h5, h6⟩, h4.trans h7⟩, h7⟩
/-- some bool -/
def Bl (e : Ending) : Prop := ∃ b, e = .returned (.bool b)
theorem blk_lt {w : World} {b : Nat} {o : Obj} (h : w.heap[b]? = some o) : b < w.heap.size := (Array.getElem?_eq_some_iff.1 h).1
set_option maxHeartbeats 4000000 in
set_option maxRecDepth 100000 in
theorem begins_any (E : Env) (i : Nat) (c : Int) (w : World) (h : St E w i c) : Calls Try.prog 68 #[pt E.pb 0] w fun e w' => Bl e ∧ Look E i c w w' := by
  have ht := look_t E i c w h
  have hlen := h.ok.few
  have hil := h.len
  have hcap := h.ok.le
  generalize tk E i c = T at *
  have hsf := store_f
  go_enter Try.func68, Try.ntmps68
  go_wp2_with (go_at_call 24; refine Calls.mono ht ?_; rintro e w1 ⟨rfl, h1⟩; clear ht)
  obtain ⟨c', _, hst⟩ := h1.st
  obtain ⟨a0, l, b0, d, hblk⟩ := hst.blk
  have hlt := hst.lt
  have c0 := cell_of hblk 0 (.slice E.ao E.ts.length E.cap) rfl
  have c1 := cell_of hblk 1 (.int .i64 i) rfl
  by_cases hn : i + 1 < E.ts.length
  · have hd : decide ((i : Int) + 1 < (E.ts.length : Int)) = true := by simp; omega
    obtain ⟨tb, o, hao, hnb, q0, q1, _, _⟩ := hst.toks (i + 1) hn
    have htl := World.block_lt_of_cell? w1 _ q0
    rw [hao] at c0
    cases hk4 : (E.ts[i + 1].k == 4) <;> cases hs4 : (E.ts[i + 1].t.toList == [40])
    all_goals
      go_quiet (fail)
      have hL : Look E i c w ((w1.alloc (.cells #[.int .i64 T.k, .string T.t, .float .f64 T.x, .int .i64 T.a] 68)).drewN nq) := h1.kp ((kp_alloc w1 _).drewM nq)
      have hR : ((w1.alloc (.cells #[.int .i64 T.k, .string T.t, .float .f64 T.x, .int .i64 T.a] 68)).drewN nq).heap[w1.heap.size]? = some (.cells #[.int .i64 T.k, .string T.t, .float .f64 T.x, .int .i64 T.a] 68) := heap_alloc_new w1 _
      have hg : w1.heap.size ≠ E.pb := by omega
      generalize ((w1.alloc (.cells #[.int .i64 T.k, .string T.t, .float .f64 T.x, .int .i64 T.a] 68)).drewN nq) = W at hL hR ⊢
      clear hblk hst h1
      have hR0 := row4 hR
      obtain ⟨⟨p0, p1, p2, p3⟩, z0, z1, z2, z3⟩ := hR0
      cases hk2 : (T.k == 2) <;> cases hk3 : (T.k == 3) <;> cases hk1 : (T.k == 1)
      all_goals
        go_wp2_with (first | (go_at_call 46; refine Calls.mono (hL.sign _) ?_; rintro e w2 ⟨rfl, hL2, hK2⟩; replace hR := (hK2.block _ (blk_lt hR) hg).trans hR; replace hL := hL2; clear hL2 hK2; have hR0 := row4 hR; obtain ⟨⟨p0, p1, p2, p3⟩, z0, z1, z2, z3⟩ := hR0; generalize isOf 4 _ _ = β; cases β) | (go_at_call 45; refine Calls.mono (pkept_any _ _) ?_; rintro e w2 ⟨⟨β, rfl⟩, hK2⟩; replace hL := hL.kp hK2; clear hK2; cases β))
        all_goals
          go_ret
          exact ⟨⟨_, rfl⟩, hL⟩
  · have hd : decide ((i : Int) + 1 < (E.ts.length : Int)) = false := by simp; omega
    go_quiet (fail)
    have hL : Look E i c w ((w1.alloc (.cells #[.int .i64 T.k, .string T.t, .float .f64 T.x, .int .i64 T.a] 68)).drewN nq) := h1.kp ((kp_alloc w1 _).drewM nq)
    have hR : ((w1.alloc (.cells #[.int .i64 T.k, .string T.t, .float .f64 T.x, .int .i64 T.a] 68)).drewN nq).heap[w1.heap.size]? = some (.cells #[.int .i64 T.k, .string T.t, .float .f64 T.x, .int .i64 T.a] 68) := heap_alloc_new w1 _
    have hg : w1.heap.size ≠ E.pb := by omega
    generalize ((w1.alloc (.cells #[.int .i64 T.k, .string T.t, .float .f64 T.x, .int .i64 T.a] 68)).drewN nq) = W at hL hR ⊢
    clear hblk hst h1
    have hR0 := row4 hR
    obtain ⟨⟨p0, p1, p2, p3⟩, z0, z1, z2, z3⟩ := hR0
    cases hk2 : (T.k == 2) <;> cases hk3 : (T.k == 3) <;> cases hk1 : (T.k == 1)
    all_goals
      go_wp2_with (first | (go_at_call 46; refine Calls.mono (hL.sign _) ?_; rintro e w2 ⟨rfl, hL2, hK2⟩; replace hR := (hK2.block _ (blk_lt hR) hg).trans hR; replace hL := hL2; clear hL2 hK2; have hR0 := row4 hR; obtain ⟨⟨p0, p1, p2, p3⟩, z0, z1, z2, z3⟩ := hR0; generalize isOf 4 _ _ = β; cases β) | (go_at_call 45; refine Calls.mono (pkept_any _ _) ?_; rintro e w2 ⟨⟨β, rfl⟩, hK2⟩; replace hL := hL.kp hK2; clear hK2; cases β))
      all_goals
        go_ret
        exact ⟨⟨_, rfl⟩, hL⟩
end Go.Proofs.Ytfkgfibmhhlemaa
namespace Go.Proofs.Ytfkgfibmhhlemaa
open Go.RowKit Go.Maps Go.WideMaps
/-- the tokens' weight up to a place -/
def tws (E : Env) (i : Nat) : Nat := ((E.ts.take i).map fun T => 1 + T.t.size).sum
theorem tws_succ (E : Env) (i : Nat) (h : i < E.ts.length) : tws E (i + 1) = tws E i + (1 + E.ts[i].t.size) := by
  unfold tws
  rw [List.take_add_one, List.getElem?_eq_getElem h, List.map_append, List.sum_append]
  simp
theorem tws_le (E : Env) {i j : Nat} (h : i ≤ j) : tws E i ≤ tws E j := by
  induction h with
  | refl => exact Nat.le_refl _
  | @step m _ ih =>
    refine Nat.le_trans ih ?_
    by_cases hm : m < E.ts.length
    · rw [tws_succ E m hm]; omega
    · unfold tws; rw [List.take_of_length_le (by omega), List.take_of_length_le (by omega)]; exact Nat.le_refl _
/-- the blocks made between two worlds -/
abbrev New (w w' : World) : Nat → Prop := fun k => w.heap.size ≤ k ∧ k < w'.heap.size
/-- a node that a part of the parser hands back -/
def NPost (E : Env) (i : Nat) (c : Int) (w : World) (e : Ending) (w' : World) : Prop := ∃ nd V i' c', e = .returned V ∧ NodeAt (New w w') w' nd V ∧ nd.ok ∧ St E w' i' c' ∧ Ke E w w' ∧ i ≤ i' ∧ (c' = 0 → c = 0 ∧ i < i' ∧ nd.wt + tws E i ≤ tws E i')
theorem NodeAt.five {R : Nat → Prop} {w : World} {nd : Nd} {V : Value} (h : NodeAt R w nd V) : ∃ k t x ao n c a, V = .agg #[.int .i64 k, .string t, .float .f64 x, .slice ao n c, .int .i64 a] := by
  cases nd
  obtain ⟨S, rfl, hs, _⟩ := h
  rcases hs with ⟨_, ao, cap, rfl, _⟩ | ⟨b, o, cap, rfl, _⟩ <;> exact ⟨_, _, _, _, _, _, _, rfl⟩
theorem Kp.imp {S S' : Nat → Prop} {w w' : World} (h : Kp S w w') (hs : ∀ k, S k → S' k) : Kp S' w w' := ⟨h.os, h.tape, h.output, h.size, fun k hk hn => h.block k hk fun e => hn (hs k e)⟩
theorem NodeAt.move {w w3 w4 W : World} {nd : Nd} {V : Value} (hn : NodeAt (New w3 w4) w4 nd V) (hb : Kp (fun k => k < w3.heap.size) w4 W) (h3 : w.heap.size ≤ w3.heap.size) : NodeAt (New w W) W nd V :=
  (hn.kept (w' := W) fun k hk => hb.block k hk.2 (by omega)).weak fun k hk => ⟨by omega, Nat.lt_of_lt_of_le hk.2 hb.size⟩
theorem St.deep {E : Env} {w : World} {i : Nat} {c : Int} (h : St E w i c) (d' : Int) : St E (w.setCell ⟨E.pb, 6, none⟩ (.int .i64 d')) i c := by
  obtain ⟨a0, l, b, d, hb⟩ := h.blk
  exact h.made h.len (fun k _ hn => set_far hn _ _) ⟨a0, l, b, d', set_blk hb 6 _⟩
abbrev row0 : Array Value := #[.int .i64 0, .string ⟨#[]⟩, .float .f64 0, .slice none 0 0, .int .i64 0]
theorem node0 (R : Nat → Prop) (w : World) : NodeAt R w (.mk 0 ⟨#[]⟩ 0 [] 0) (.agg row0) := ⟨_, rfl, .inl ⟨rfl, none, 0, rfl, Nat.zero_le _⟩, trivial⟩
/-- a fault: the empty node -/
theorem npost_dead {E : Env} {i j : Nat} {c c' : Int} {w w' : World} (hc : c' ≠ 0) (hs : St E w' j c') (hk : Ke E w w') (hj : i ≤ j) : NPost E i c w (.returned (.agg row0)) w' :=
  ⟨.mk 0 ⟨#[]⟩ 0 [] 0, _, j, c', rfl, node0 _ _, ⟨by decide, trivial⟩, hs, hk, hj, fun h => absurd h hc⟩
theorem Look.into {E : Env} {i : Nat} {c : Int} {w w1 : World} (h : Look E i c w w1) (a : Int) : Calls Try.prog 48 #[pt E.pb 0, .int .i64 a] w1 fun e w' => (e = .returned (.bool true) ∧ Look E i c w w' ∧ Ke E w1 w') ∨ (e = .returned (.bool false) ∧ (∃ c', c' ≠ 0 ∧ St E w' i c') ∧ Ke E w1 w') := by
  obtain ⟨⟨c', h2, h3⟩, h4⟩ := h
  refine (into_any E i c' a w1 h3).mono ?_
  rintro e w' ⟨h5, ⟨rfl, h6⟩ | ⟨rfl, h6⟩⟩
  · exact .inl ⟨rfl, ⟨⟨c', h2, h6⟩, h4.trans h5⟩, h5⟩
  · exact .inr ⟨rfl, h6, h5⟩
theorem Look.wrong {E : Env} {i : Nat} {c : Int} {w w1 : World} (h : Look E i c w w1) : Calls Try.prog 37 #[pt E.pb 0] w1 fun e w' => e = .returned (.tuple #[]) ∧ Dead E i w1 w' := by
  obtain ⟨⟨c', h2, h3⟩, h4⟩ := h
  exact wrong_any E i c' w1 h3
theorem Look.begins {E : Env} {i : Nat} {c : Int} {w w1 : World} (h : Look E i c w w1) : Calls Try.prog 68 #[pt E.pb 0] w1 fun e w' => Bl e ∧ Look E i c w w' ∧ Ke E w1 w' := by
  obtain ⟨⟨c', h2, h3⟩, h4⟩ := h
  refine (begins_any E i c' w1 h3).mono ?_
  rintro e w' ⟨hb, ⟨c2, h5, h6⟩, h7⟩
  exact ⟨hb, ⟨⟨c2, h2.trans h5, h6⟩, h4.trans h7⟩, h7⟩
theorem Look.t {E : Env} {i : Nat} {c : Int} {w w1 : World} (h : Look E i c w w1) : Calls Try.prog 24 #[pt E.pb 0] w1 fun e w' => e = .returned (tk E i c).V ∧ Look E i c w w' ∧ Ke E w1 w' := by
  obtain ⟨⟨c', h2, h3⟩, h4⟩ := h
  refine (look_t E i c' w1 h3).mono ?_
  rintro e w' ⟨rfl, ⟨c2, h5, h6⟩, h7⟩
  exact ⟨by rw [h2.tk], ⟨⟨c2, h2.trans h5, h6⟩, h4.trans h7⟩, h7⟩
theorem St.look {E : Env} {i : Nat} {c : Int} {w : World} (h : St E w i c) : Look E i c w w := ⟨⟨c, Same.refl _ _ _, h⟩, ke_refl _ _⟩
/-- what a part that hands back a node does -/
def NOk (f : Nat) (E : Env) (i : Nat) : Prop := ∀ c w, St E w i c → Calls Try.prog f #[pt E.pb 0] w (NPost E i c w)
theorem NOk.at {f : Nat} {E : Env} {i : Nat} (h : NOk f E i) {c : Int} {w w1 : World} (hl : Look E i c w w1) : Calls Try.prog f #[pt E.pb 0] w1 fun e w' => ∃ nd k t x ao n cp a i' c', e = .returned (.agg #[.int .i64 k, .string t, .float .f64 x, .slice ao n cp, .int .i64 a]) ∧
    NodeAt (New w1 w') w' nd (.agg #[.int .i64 k, .string t, .float .f64 x, .slice ao n cp, .int .i64 a]) ∧ nd.ok ∧ St E w' i' c' ∧ Ke E w1 w' ∧ i ≤ i' ∧ (c' = 0 → c = 0 ∧ i < i' ∧ nd.wt + tws E i ≤ tws E i') := by
  obtain ⟨⟨c', h2, h3⟩, h4⟩ := hl
  refine (h c' w1 h3).mono ?_
  rintro e w' ⟨nd, V, i', c2, rfl, hn, hok, hst, hk, hi, hz⟩
  obtain ⟨k, t, x, ao, n, cp, a, rfl⟩ := hn.five
  exact ⟨nd, k, t, x, ao, n, cp, a, i', c2, rfl, hn, hok, hst, hk, hi, fun hc => ⟨h2.zero (hz hc).1, (hz hc).2⟩⟩
theorem row_on {S : Nat → Prop} {w w' : World} {g : Nat} {o : Obj} (h : w.heap[g]? = some o) (hk : Kp S w w') (hg : ¬ S g) : w'.heap[g]? = some o := (hk.block g (blk_lt h) hg).trans h
theorem row_past {w : World} {g : Nat} {o : Obj} (h : w.heap[g]? = some o) (o' : Obj) : (w.alloc o').heap[g]? = some o := (heap_alloc_old w o' (blk_lt h)).trans h
set_option maxHeartbeats 4000000 in
set_option maxRecDepth 100000 in
theorem inner_any (E : Env) (i : Nat) (hex : NOk 35 E i) : NOk 73 E i := by
  intro c w h
  have hsf := store_f
  have hlt := h.lt
  have hL0 := (h.alloc (.cells row0 25)).look
  have hR0 : (w.alloc (.cells row0 25)).heap[w.heap.size]? = some (.cells row0 25) := heap_alloc_new w _
  have hg : w.heap.size ≠ E.pb := by omega
  have ht := hL0.t
  generalize tk E i c = T at ht
  go_enter Try.func73, Try.ntmps73
  go_wp2_with (first
    | (go_at_call 24; refine Calls.mono ht ?_; rintro e w1 ⟨rfl, hL, hK⟩; clear ht; have hR1 := row_past (row_on hR0 hK hg) (.cells #[.int .i64 T.k, .string T.t, .float .f64 T.x, .int .i64 T.a] 68); have hT1 := heap_alloc_new w1 (.cells #[.int .i64 T.k, .string T.t, .float .f64 T.x, .int .i64 T.a] 68); have hg1 : w1.heap.size ≠ E.pb := (by have := hK.size; simp at this; omega); have hs1 := hK.size; have hE1 := ((kp_alloc w (.cells row0 25)).weak.trans hK).alloc (.cells #[.int .i64 T.k, .string T.t, .float .f64 T.x, .int .i64 T.a] 68); replace hL := hL.kp (kp_alloc w1 (.cells #[.int .i64 T.k, .string T.t, .float .f64 T.x, .int .i64 T.a] 68)))
    | (go_at_call 68; refine Calls.mono hL.begins ?_; rintro e w2 ⟨⟨β, rfl⟩, hL2, hK2⟩; have hR2 := row_on hR1 hK2 hg; have hE2 := hE1.trans hK2; obtain ⟨⟨p0, p1, p2, p3⟩, z0, z1, z2, z3⟩ := row4 (row_on hT1 hK2 hg1); cases β)
    | (go_at_call 37; refine Calls.mono hL2.wrong ?_; rintro e w3 ⟨rfl, hD⟩; have hR3 := row_on hR2 hD.ke hg; have hE3 := hE2.trans hD.ke; obtain ⟨⟨r0, r1, r2, r3, r4⟩, y0, y1, y2, y3, y4⟩ := row5 hR3)
    | (go_at_call 48; refine Calls.mono (hL2.into _) ?_; rintro e w3 (⟨rfl, hL3, hK3⟩ | ⟨rfl, hL3, hK3⟩) <;> (have hR3 := row_on hR2 hK3 hg; have hE3 := hE2.trans hK3; obtain ⟨⟨r0, r1, r2, r3, r4⟩, y0, y1, y2, y3, y4⟩ := row5 hR3))
    | (go_at_call 35; refine Calls.mono (hex.at hL3) ?_; rintro e w4 ⟨nd, k, t, x, ao, n, cp, a, i', c', rfl, hn, hok, hst, hK4, hi, hz⟩; obtain ⟨a0, l, b0, d, hblk⟩ := hst.blk; have c6 := cell_of hblk 6 (.int .i64 d) rfl; have zf := frozen_of hblk 6; have hlt4 := hst.lt; have hR4 := row_on hR3 hK4 hg; have hE4 := hE3.trans hK4; have hrl := blk_lt hR4; obtain ⟨⟨r0, r1, r2, r3, r4⟩, y0, y1, y2, y3, y4⟩ := row5 hR4))
  · obtain ⟨c', hc', hst'⟩ := hD.st
    exact end5 rfl (sets5_row hR3) rfl (npost_dead hc' (St.own h hst' (kp_sets5 _ _ _ _ _ _ _) (Nat.le_refl _)) (hE3.own (kp_sets5 _ _ _ _ _ _ _) (Nat.le_refl _)) (Nat.le_refl _))
  · have hl3 := hL3.st.choose_spec.2.lt
    have hr3 := blk_lt hR3
    have hs3 := hE3.size
    exact end5 rfl (row_past (sets5_row (row_on hR4 (kp_set1 w4 E.pb 6 (.int .i64 (wrap64 (d - 1)))) hg)) _) rfl
      ⟨nd, _, i', c', rfl, hn.move ((((kp_set1 w4 E.pb 6 _).imp (fun _ e => by omega)).trans ((kp_sets5 _ _ _ _ _ _ _).imp (fun _ e => by omega))).alloc _) hs3, hok, (St.own h (hst.deep _) (kp_sets5 _ _ _ _ _ _ _) (Nat.le_refl _)).alloc _,
        ((hE4.trans (kp_set1 _ _ _ _)).own (kp_sets5 _ _ _ _ _ _ _) (Nat.le_refl _)).alloc _, hi, hz⟩
  · obtain ⟨c', hc', hst'⟩ := hL3
    exact end5 rfl (sets5_row hR3) rfl (npost_dead hc' (St.own h hst' (kp_sets5 _ _ _ _ _ _ _) (Nat.le_refl _)) (hE3.own (kp_sets5 _ _ _ _ _ _ _) (Nat.le_refl _)) (Nat.le_refl _))
end Go.Proofs.Ytfkgfibmhhlemaa
namespace Go.Proofs.Ytfkgfibmhhlemaa
open Go.RowKit Go.Maps Go.WideMaps
theorem isOf_tok {E : Env} {i : Nat} {c k : Int} {s : ByteArray} (hk : k ≠ 0) (h : isOf k (tk E i c) s = true) : c = 0 ∧ i < E.ts.length ∧ tws E (i + 1) = tws E i + (1 + (tk E i c).t.size) := by
  obtain ⟨rfl, hi⟩ := isOf_live hk h
  refine ⟨rfl, hi, ?_⟩
  rw [tws_succ E i hi]
  unfold tk
  simp [hi]
/-- one kid in a row of its own -/
theorem one_kid {R : Nat → Prop} {w : World} {g : Nat} {nd : Nd} {c0 c1 c2 c3 c4 : Value} (hg : w.heap[g]? = some (.cells #[c0, c1, c2, c3, c4] 25)) (hr : R g) (hn : NodeAt R w nd (.agg #[c0, c1, c2, c3, c4])) :
    KidsAt R w [nd] (.slice (some ⟨g, 0, none⟩) 1 1) 0 :=
  ⟨⟨c0, c1, c2, c3, c4, ⟨g, 0, 1, 1, rfl, hr, cell_of hg 0 _ rfl, cell_of hg 1 _ rfl, cell_of hg 2 _ rfl, cell_of hg 3 _ rfl, cell_of hg 4 _ rfl⟩, hn⟩, trivial⟩
theorem one_done {w w3 w8 X : World} {nd : Nd} {c0 c1 c2 c3 c4 : Value} (hn : NodeAt (New w3 w8) w8 nd (.agg #[c0, c1, c2, c3, c4])) (hX : Kp (fun k => k < w3.heap.size) w8 X) (hs : X.heap.size = w8.heap.size) (h3 : w.heap.size ≤ w3.heap.size) (h38 : w3.heap.size ≤ w8.heap.size) :
    KidsAt (New w ((X.alloc (.cells #[c0, c1, c2, c3, c4] 25)).alloc (.cells #[c0, c1, c2, c3, c4] 25))) ((X.alloc (.cells #[c0, c1, c2, c3, c4] 25)).alloc (.cells #[c0, c1, c2, c3, c4] 25)) [nd] (.slice (some ⟨w8.heap.size + 1, 0, none⟩) 1 1) 0 := by
  have hk := (hX.alloc (.cells #[c0, c1, c2, c3, c4] 25)).alloc (.cells #[c0, c1, c2, c3, c4] 25)
  have h8 := hn.move (w := w) hk h3
  have hg := heap_alloc_new (X.alloc (.cells #[c0, c1, c2, c3, c4] 25)) (.cells #[c0, c1, c2, c3, c4] 25)
  have hz : (X.alloc (.cells #[c0, c1, c2, c3, c4] 25)).heap.size = w8.heap.size + 1 := by simp [hs]
  rw [hz] at hg
  have hlt := blk_lt hg
  exact one_kid hg ⟨by omega, hlt⟩ h8
theorem dead_end {E : Env} {i j : Nat} {c c' : Int} {w X : World} (h : St E w i c) (hc : c' ≠ 0) (hst : St E X j c') (hE : Ke E w X) (hj : i ≤ j) : NPost E i c w (.returned (.agg row0)) (sets5 X w.heap.size (.int .i64 0) (.string ⟨#[]⟩) (.float .f64 0) (.slice none 0 0) (.int .i64 0)) :=
  npost_dead hc (St.own h hst (kp_sets5 _ _ _ _ _ _ _) (Nat.le_refl _)) (hE.own (kp_sets5 _ _ _ _ _ _ _) (Nat.le_refl _)) hj
set_option maxHeartbeats 4000000 in
set_option maxRecDepth 100000 in
theorem unary_any (E : Env) (i : Nat) (hpr : NOk 67 E i) (hun : i < E.ts.length → NOk 58 E (i + 1)) : NOk 58 E i := by
  intro c w h
  have hsf := store_f
  have hlt := h.lt
  have hfew := h.ok.few
  have hilen := h.len
  have hL0 := (h.alloc (.cells row0 25)).look
  have hR : (w.alloc (.cells row0 25)).heap[w.heap.size]? = some (.cells row0 25) := heap_alloc_new w _
  have hg : w.heap.size ≠ E.pb := by omega
  have ht := hL0.t
  go_enter Try.func58, Try.ntmps58
  go_wp2_with (first
    | (go_at_call 24; refine Calls.mono ht ?_; rintro e w1 ⟨rfl, hL, hK⟩; clear ht; replace hR := row_past (row_on hR hK hg) (.cells #[.int .i64 (tk E i c).k, .string (tk E i c).t, .float .f64 (tk E i c).x, .int .i64 (tk E i c).a] 68); have hT := heap_alloc_new w1 (.cells #[.int .i64 (tk E i c).k, .string (tk E i c).t, .float .f64 (tk E i c).x, .int .i64 (tk E i c).a] 68); have hg1 : w1.heap.size ≠ E.pb := (by have := hK.size; simp at this; omega); have hs1 := hK.size; have hE := ((kp_alloc w (.cells row0 25)).weak.trans hK).alloc (.cells #[.int .i64 (tk E i c).k, .string (tk E i c).t, .float .f64 (tk E i c).x, .int .i64 (tk E i c).a] 68); replace hL := hL.kp (kp_alloc w1 (.cells #[.int .i64 (tk E i c).k, .string (tk E i c).t, .float .f64 (tk E i c).x, .int .i64 (tk E i c).a] 68)))
    | (go_at_call 46; refine Calls.mono (hL.sign _) ?_; rintro e w2 ⟨rfl, hL2, hK⟩; replace hL := hL2; replace hE := hE.trans hK; replace hR := row_on hR hK hg; replace hT := row_on hT hK hg1; obtain ⟨⟨r0, r1, r2, r3, r4⟩, y0, y1, y2, y3, y4⟩ := row5 hR; obtain ⟨⟨p0, p1, p2, p3⟩, z0, z1, z2, z3⟩ := row4 hT; clear hL2 hK; generalize hβ : isOf 4 _ _ = β; cases β; all_goals try (obtain ⟨hc0, hi0, hw0⟩ := isOf_tok (by decide) hβ; have hS := hL.live hc0 hi0; obtain ⟨a0, l, b0, d, hblk⟩ := hS.blk; have c1 := cell_of hblk 1 (.int .i64 i) rfl; have zf := frozen_of hblk 1; clear hblk; have hM := hS.moved hi0; replace hR := row_on hR (kp_set1 w2 E.pb 1 (.int .i64 (i + 1))) hg; replace hT := row_on hT (kp_set1 w2 E.pb 1 (.int .i64 (i + 1))) hg1; replace hE := hE.trans (kp_set1 w2 E.pb 1 (.int .i64 (i + 1))); clear hL))
    | (go_at_call 24; refine Calls.mono hM.look.t ?_; rintro e w5 ⟨rfl, hL, hK⟩; replace hR := row_past (row_on hR hK hg) (.cells #[.int .i64 (tk E (i + 1) 0).k, .string (tk E (i + 1) 0).t, .float .f64 (tk E (i + 1) 0).x, .int .i64 (tk E (i + 1) 0).a] 68); replace hT := row_past (row_on hT hK hg1) (.cells #[.int .i64 (tk E (i + 1) 0).k, .string (tk E (i + 1) 0).t, .float .f64 (tk E (i + 1) 0).x, .int .i64 (tk E (i + 1) 0).a] 68); have hU := heap_alloc_new w5 (.cells #[.int .i64 (tk E (i + 1) 0).k, .string (tk E (i + 1) 0).t, .float .f64 (tk E (i + 1) 0).x, .int .i64 (tk E (i + 1) 0).a] 68); have hg2 : w5.heap.size ≠ E.pb := (by have := hL.st.choose_spec.2.lt; omega); replace hE := (hE.trans hK).alloc (.cells #[.int .i64 (tk E (i + 1) 0).k, .string (tk E (i + 1) 0).t, .float .f64 (tk E (i + 1) 0).x, .int .i64 (tk E (i + 1) 0).a] 68); replace hL := hL.kp (kp_alloc w5 (.cells #[.int .i64 (tk E (i + 1) 0).k, .string (tk E (i + 1) 0).t, .float .f64 (tk E (i + 1) 0).x, .int .i64 (tk E (i + 1) 0).a] 68)); clear hK)
    | (go_at_call 68; refine Calls.mono hL.begins ?_; rintro e w6 ⟨⟨β, rfl⟩, hL2, hK⟩; replace hL := hL2; replace hE := hE.trans hK; replace hR := row_on hR hK hg; replace hT := row_on hT hK hg1; replace hU := row_on hU hK hg2; obtain ⟨⟨u0, u1, u2, u3⟩, x0, x1, x2, x3⟩ := row4 hU; clear hL2 hK; cases β)
    | (go_at_call 37; refine Calls.mono hL.wrong ?_; rintro e w7 ⟨rfl, hD⟩; have hK := hD.ke; replace hE := hE.trans hK; replace hR := row_on hR hK hg; obtain ⟨⟨r0, r1, r2, r3, r4⟩, y0, y1, y2, y3, y4⟩ := row5 hR; replace hD := hD.st)
    | (go_at_call 48; refine Calls.mono (hL.into _) ?_; rintro e w7 (⟨rfl, hL2, hK⟩ | ⟨rfl, hD, hK⟩) <;> (replace hE := hE.trans hK; replace hR := row_on hR hK hg; replace hT := row_on hT hK hg1; obtain ⟨⟨r0, r1, r2, r3, r4⟩, y0, y1, y2, y3, y4⟩ := row5 hR))
    | (go_at_call 58; refine Calls.mono ((hun hi0).at hL2) ?_; rintro e w8 ⟨nd, k, t, x, ao, n, cp, a, i', c', rfl, hn, hok, hst, hK, hi, hz⟩; have hE3 := hE; have hr3 := blk_lt hR; have ht3 := blk_lt hT; replace hE := hE.trans hK; replace hR := row_on hR hK hg; replace hT := row_on hT hK hg1; obtain ⟨⟨r0, r1, r2, r3, r4⟩, y0, y1, y2, y3, y4⟩ := row5 hR; obtain ⟨⟨p0, p1, p2, p3⟩, z0, z1, z2, z3⟩ := row4 hT; obtain ⟨a0, l, b0, d, hblk⟩ := hst.blk; have c6 := cell_of hblk 6 (.int .i64 d) rfl; have zf := frozen_of hblk 6; have hlt8 := hst.lt; have hrl := blk_lt hR; have htl := blk_lt hT)
    | (go_at_call 67; refine Calls.mono (hpr.at hL) ?_; rintro e w4 ⟨nd, k, t, x, ao, n, cp, a, i', c', rfl, hnP, hok, hst, hK, hi, hz⟩; have hE3 := hE; have hr3 := blk_lt hR; have ht3 := blk_lt hT; replace hE := hE.trans hK; replace hR := row_on hR hK hg; obtain ⟨⟨r0, r1, r2, r3, r4⟩, y0, y1, y2, y3, y4⟩ := row5 hR))
  all_goals first
    | (obtain ⟨c', hc', hst'⟩ := hD; exact end5 rfl (sets5_row hR) rfl (dead_end h hc' hst' hE (by omega)))
    | (have hn := hnP; exact end5 rfl (sets5_row hR) rfl ⟨nd, _, i', c', rfl, hn.move ((kp_sets5 _ _ _ _ _ _ _).imp (fun _ e => by omega)) hE3.size, hok, St.own h hst (kp_sets5 _ _ _ _ _ _ _) (Nat.le_refl _), hE.own (kp_sets5 _ _ _ _ _ _ _) (Nat.le_refl _), hi, hz⟩)
    | skip
  all_goals
    rw [hc0] at hw0
    have hcell : Kp (fun k => k = E.pb) w8 (w8.setCell ⟨E.pb, 6, none⟩ (.int .i64 (wrap64 (d - 1)))) := kp_set1 _ _ _ _
    have hX := fun u0 u1 u2 u3 u4 => (hcell.imp (S' := fun k => k < w7.heap.size) (fun _ e => by omega)).trans ((kp_sets5 (w8.setCell ⟨E.pb, 6, none⟩ (.int .i64 (wrap64 (d - 1)))) w.heap.size u0 u1 u2 u3 u4).imp (fun _ e => by omega))
    have hdone := one_done hn (hX (.int .i64 17) (.string (tk E i 0).t) (.float .f64 0) (.slice (some ⟨w8.heap.size + 1, 0, none⟩) 1 1) (.int .i64 (tk E i 0).a)) (by simp [sets5]) hE3.size hK.size
    exact end5 rfl (row_past (row_past (sets5_row (row_on hR hcell hg)) _) _) rfl
      ⟨.mk 17 (tk E i 0).t 0 [nd] (tk E i 0).a, _, i', c', rfl, ⟨_, rfl, .inr ⟨_, 0, 1, rfl, Nat.le_refl _, by unfold maxLen; omega⟩, hdone⟩, ⟨by decide, hok, trivial⟩, ((St.own h (hst.deep _) (kp_sets5 _ _ _ _ _ _ _) (Nat.le_refl _)).alloc _).alloc _,
        (((hE.trans hcell).own (kp_sets5 _ _ _ _ _ _ _) (Nat.le_refl _)).alloc _).alloc _, by omega, fun hc => ⟨by assumption, by have := (hz hc).2.1; omega, by
          have := (hz hc).2.2
          simp only [Nd.wt, wtL]
          omega⟩⟩
end Go.Proofs.Ytfkgfibmhhlemaa
namespace Go.Proofs.Ytfkgfibmhhlemaa
open Go.RowKit Go.Maps Go.WideMaps
def BOk (l : Int) (E : Env) (i : Nat) : Prop := ∀ c w, St E w i c → Calls Try.prog 47 #[pt E.pb 0, .int .i64 l] w (NPost E i c w)
theorem end5b {fn : Func} (hr : fn.results = #[.cell 4 25]) {W : World} {g : Nat} {cs : Array Value} {Q : Ending → World → Prop} {tmps : Array Value} (hh : W.heap[g]? = some (.cells cs 25)) (ht : tmps.getD 4 undef = .pointer (some ⟨g, 0, none⟩)) (hQ : Q (.returned (.agg cs)) W) (hcs : cs.size = 5 := by rfl) : bodyPost Try.prog fn Q .ret { tmps := tmps, defers := [] } W :=
  bodyPost_ret (results_cell_row hr tmps W g 25 cs (0, 0) _ ht hh Try.underlying25 rfl (by rw [size25s, hcs])) rfl hQ
theorem BOk.at {l : Int} {E : Env} {i : Nat} (h : BOk l E i) {c : Int} {w w1 : World} (hl : Look E i c w w1) : Calls Try.prog 47 #[pt E.pb 0, .int .i64 l] w1 fun e w' => ∃ nd k t x ao n cp a i' c', e = .returned (.agg #[.int .i64 k, .string t, .float .f64 x, .slice ao n cp, .int .i64 a]) ∧
    NodeAt (New w1 w') w' nd (.agg #[.int .i64 k, .string t, .float .f64 x, .slice ao n cp, .int .i64 a]) ∧ nd.ok ∧ St E w' i' c' ∧ Ke E w1 w' ∧ i ≤ i' ∧ (c' = 0 → c = 0 ∧ i < i' ∧ nd.wt + tws E i ≤ tws E i') := by
  obtain ⟨⟨c', h2, h3⟩, h4⟩ := hl
  refine (h c' w1 h3).mono ?_
  rintro e w' ⟨nd, V, i', c2, rfl, hn, hok, hst, hk, hi, hz⟩
  obtain ⟨k, t, x, ao, n, cp, a, rfl⟩ := hn.five
  exact ⟨nd, k, t, x, ao, n, cp, a, i', c2, rfl, hn, hok, hst, hk, hi, fun hc => ⟨h2.zero (hz hc).1, (hz hc).2⟩⟩
set_option maxHeartbeats 4000000 in
set_option maxRecDepth 100000 in
theorem expr_ok (E : Env) (i : Nat) (hb : BOk 0 E i) : NOk 35 E i := by
  intro c w h
  have hsf := store_f
  have hlt := h.lt
  have hL := (h.alloc (.cells row0 25)).look
  have hR : (w.alloc (.cells row0 25)).heap[w.heap.size]? = some (.cells row0 25) := heap_alloc_new w _
  have hg : w.heap.size ≠ E.pb := by omega
  have hE := (kp_alloc w (.cells row0 25)).weak (S := fun k => k = E.pb)
  go_enter Try.func35, Try.ntmps35
  go_wp2_with (go_at_call 47; refine Calls.mono (hb.at hL) ?_; rintro e w4 ⟨nd, k, t, x, ao, n, cp, a, i', c', rfl, hn, hok, hst, hK, hi, hz⟩; have hE3 := hE; have hr3 := blk_lt hR; replace hE := hE.trans hK; replace hR := row_on hR hK hg; obtain ⟨⟨r0, r1, r2, r3, r4⟩, y0, y1, y2, y3, y4⟩ := row5 hR)
  exact end5 rfl (sets5_row hR) rfl ⟨nd, _, i', c', rfl, hn.move ((kp_sets5 _ _ _ _ _ _ _).imp (fun _ e => by simp only [World.size_alloc]; omega)) hE3.size, hok, St.own h hst (kp_sets5 _ _ _ _ _ _ _) (Nat.le_refl _), hE.own (kp_sets5 _ _ _ _ _ _ _) (Nat.le_refl _), hi, hz⟩
set_option maxHeartbeats 4000000 in
set_option maxRecDepth 100000 in
theorem binary_4 (E : Env) (i : Nat) (hu : NOk 58 E i) : BOk 4 E i := by
  intro c w h
  have hsf := store_f
  have hlt := h.lt
  have hL := (h.alloc (.cells row0 25)).look
  have hR : (w.alloc (.cells row0 25)).heap[w.heap.size]? = some (.cells row0 25) := heap_alloc_new w _
  have hg : w.heap.size ≠ E.pb := by omega
  have hE := (kp_alloc w (.cells row0 25)).weak (S := fun k => k = E.pb)
  go_enter Try.func47, Try.ntmps47
  go_wp2_with (go_at_call 58; refine Calls.mono (hu.at hL) ?_; rintro e w4 ⟨nd, k, t, x, ao, n, cp, a, i', c', rfl, hn, hok, hst, hK, hi, hz⟩; have hE3 := hE; have hr3 := blk_lt hR; replace hE := hE.trans hK; replace hR := row_on hR hK hg; obtain ⟨⟨r0, r1, r2, r3, r4⟩, y0, y1, y2, y3, y4⟩ := row5 hR)
  exact end5b rfl (sets5_row hR) rfl ⟨nd, _, i', c', rfl, hn.move ((kp_sets5 _ _ _ _ _ _ _).imp (fun _ e => by simp only [World.size_alloc]; omega)) hE3.size, hok, St.own h hst (kp_sets5 _ _ _ _ _ _ _) (Nat.le_refl _), hE.own (kp_sets5 _ _ _ _ _ _ _) (Nat.le_refl _), hi, hz⟩
end Go.Proofs.Ytfkgfibmhhlemaa
namespace Go.Proofs.Ytfkgfibmhhlemaa
open Go.RowKit Go.Maps Go.WideMaps
abbrev RB (w : World) (bx : Nat) (wr : World) : Nat → Prop := fun k => w.heap.size < k ∧ k < wr.heap.size ∧ k ≠ bx
/-- the state at the head of an expression's loop: x at bx -/
structure BInv (E : Env) (i : Nat) (c : Int) (w : World) (bx g : Nat) (strs : Array Value) (i' : Nat) (c' : Int) (nd : Nd) (k : Int) (t : ByteArray) (x : Nat) (ao : Option Addr) (n cp : Nat) (a : Int) (wr : World) : Prop where
  row : wr.heap[bx]? = some (.cells #[.int .i64 k, .string t, .float .f64 x, .slice ao n cp, .int .i64 a] 25)
  node : NodeAt (RB w bx wr) wr nd (.agg #[.int .i64 k, .string t, .float .f64 x, .slice ao n cp, .int .i64 a])
  ok : nd.ok
  st : St E wr i' c'
  ke : Ke E w wr
  r : wr.heap[w.heap.size]? = some (.cells row0 25)
  s : wr.heap[g]? = some (.cells strs 9)
  le : i ≤ i'
  z : c' = 0 → c = 0 ∧ i < i' ∧ nd.wt + tws E i ≤ tws E i'
  far : E.pb < w.heap.size ∧ w.heap.size < g ∧ g < bx
section
variable {E : Env} {i : Nat} {c : Int} {w : World} {bx g : Nat} {strs : Array Value} {i' : Nat} {c' : Int} {nd : Nd} {k : Int} {t : ByteArray} {x : Nat} {ao : Option Addr} {n cp : Nat} {a : Int} {wr w' : World}
/-- another fault, or none -/
theorem BInv.on (h : BInv E i c w bx g strs i' c' nd k t x ao n cp a wr) (hk : Ke E wr w') {c2 : Int} (hs : St E w' i' c2) (hc : c2 = 0 → c' = 0) : BInv E i c w bx g strs i' c2 nd k t x ao n cp a w' := by
  have hf := h.far
  refine ⟨row_on h.row hk (by omega), ?_, h.ok, hs, h.ke.trans hk, row_on h.r hk (by omega), row_on h.s hk (by omega), h.le, fun e => h.z (hc e), hf⟩
  exact (h.node.kept (w' := w') fun j hj => hk.block j hj.2.1 (by have := hj.1; omega)).weak fun j hj => ⟨hj.1, Nat.lt_of_lt_of_le hj.2.1 hk.size, hj.2.2⟩
theorem BInv.alloc (h : BInv E i c w bx g strs i' c' nd k t x ao n cp a wr) (o : Obj) : BInv E i c w bx g strs i' c' nd k t x ao n cp a (wr.alloc o) := h.on (kp_alloc wr o).weak (h.st.alloc o) fun e => e
theorem BInv.look (h : BInv E i c w bx g strs i' c' nd k t x ao n cp a wr) {w1 : World} (hl : Look E i' c' wr w1) : ∃ c2, BInv E i c w bx g strs i' c2 nd k t x ao n cp a w1 ∧ Same E i' c' c2 := by
  obtain ⟨⟨c2, h2, h3⟩, h4⟩ := hl
  exact ⟨c2, h.on h4 h3 h2.zero, h2⟩
/-- the end: x is handed back -/
theorem BInv.done (h : BInv E i c w bx g strs i' c' nd k t x ao n cp a wr) (h0 : St E w i c) : NPost E i c w (.returned (.agg #[.int .i64 k, .string t, .float .f64 x, .slice ao n cp, .int .i64 a])) (sets5 wr w.heap.size (.int .i64 k) (.string t) (.float .f64 x) (.slice ao n cp) (.int .i64 a)) := by
  have hk := kp_sets5 wr w.heap.size (.int .i64 k) (.string t) (.float .f64 x) (.slice ao n cp) (.int .i64 a)
  refine ⟨nd, _, i', c', rfl, ?_, h.ok, St.own h0 h.st hk (Nat.le_refl _), h.ke.own hk (Nat.le_refl _), h.le, h.z⟩
  exact (h.node.kept fun j hj => hk.block j hj.2.1 (by have := hj.1; omega)).weak fun j hj => ⟨Nat.le_of_lt hj.1, Nat.lt_of_lt_of_le hj.2.1 hk.size⟩
theorem two_kids {R : Nat → Prop} {u : World} {q : Nat} {n1 n2 : Nd} {c0 c1 c2 c3 c4 d0 d1 d2 d3 d4 : Value} (hg : u.heap[q]? = some (.cells #[c0, c1, c2, c3, c4, d0, d1, d2, d3, d4] 25)) (hr : R q) (h1 : NodeAt R u n1 (.agg #[c0, c1, c2, c3, c4])) (h2 : NodeAt R u n2 (.agg #[d0, d1, d2, d3, d4])) :
    KidsAt R u [n1, n2] (.slice (some ⟨q, 0, none⟩) 2 2) 0 :=
  ⟨⟨c0, c1, c2, c3, c4, ⟨q, 0, 2, 2, rfl, hr, cell_of hg 0 _ rfl, cell_of hg 1 _ rfl, cell_of hg 2 _ rfl, cell_of hg 3 _ rfl, cell_of hg 4 _ rfl⟩, h1⟩,
    ⟨d0, d1, d2, d3, d4, ⟨q, 0, 2, 2, rfl, hr, cell_of hg 5 _ rfl, cell_of hg 6 _ rfl, cell_of hg 7 _ rfl, cell_of hg 8 _ rfl, cell_of hg 9 _ rfl⟩, h2⟩, trivial⟩
/-- one sign more -/
theorem BInv.push (h : BInv E i c w bx g strs i' 0 nd k t x ao n cp a wr) (h0 : St E w i c) (T : Tok) (hT : tws E (i' + 1) = tws E i' + (1 + T.t.size)) {nd2 : Nd} {k2 : Int} {t2 : ByteArray} {x2 : Nat} {ao2 : Option Addr} {n2 cp2 : Nat} {a2 : Int} {i2 : Nat} {c2 : Int} (v : Int)
    (hn : NodeAt (New (wr.setCell ⟨E.pb, 1, none⟩ (.int .i64 v)) w') w' nd2 (.agg #[.int .i64 k2, .string t2, .float .f64 x2, .slice ao2 n2 cp2, .int .i64 a2])) (hok : nd2.ok) (hst : St E w' i2 c2) (hk : Ke E (wr.setCell ⟨E.pb, 1, none⟩ (.int .i64 v)) w') (hi2 : i' + 1 ≤ i2)
    (hz : c2 = 0 → i' + 1 < i2 ∧ nd2.wt + tws E (i' + 1) ≤ tws E i2) {W : World} {q : Nat} (hW : W = ((sets5 w' bx (.int .i64 18) (.string T.t) (.float .f64 0) (.slice (some ⟨q, 0, none⟩) 2 2) (.int .i64 T.a)).alloc (.cells #[.int .i64 k2, .string t2, .float .f64 x2, .slice ao2 n2 cp2, .int .i64 a2] 25)).alloc
      (.cells #[.int .i64 k, .string t, .float .f64 x, .slice ao n cp, .int .i64 a, .int .i64 k2, .string t2, .float .f64 x2, .slice ao2 n2 cp2, .int .i64 a2] 25)) (hq : q = w'.heap.size + 1) :
    BInv E i c w bx g strs i2 c2 (.mk 18 T.t 0 [nd, nd2] T.a) 18 T.t 0 (some ⟨q, 0, none⟩) 2 2 T.a W := by
  have hf := h.far
  have hbx := blk_lt h.row
  have hk0 : Ke E wr w' := (kp_set1 wr E.pb 1 (.int .i64 v)).trans hk
  have hs0 := hk0.size
  have hsz : (wr.setCell ⟨E.pb, 1, none⟩ (.int .i64 v)).heap.size = wr.heap.size := sc_size _ _ _
  have hk5 := kp_sets5 w' bx (.int .i64 18) (.string T.t) (.float .f64 0) (.slice (some ⟨q, 0, none⟩) 2 2) (.int .i64 T.a)
  have hkW : Kp (fun j => j = bx) w' W := by rw [hW]; exact (hk5.alloc _).alloc _
  have hWs : W.heap.size = w'.heap.size + 2 := by rw [hW]; simp [sets5]
  have hWq : W.heap[q]? = some (.cells #[.int .i64 k, .string t, .float .f64 x, .slice ao n cp, .int .i64 a, .int .i64 k2, .string t2, .float .f64 x2, .slice ao2 n2 cp2, .int .i64 a2] 25) := by
    have := heap_alloc_new ((sets5 w' bx (.int .i64 18) (.string T.t) (.float .f64 0) (.slice (some ⟨q, 0, none⟩) 2 2) (.int .i64 T.a)).alloc (.cells #[.int .i64 k2, .string t2, .float .f64 x2, .slice ao2 n2 cp2, .int .i64 a2] 25)) (.cells #[.int .i64 k, .string t, .float .f64 x, .slice ao n cp, .int .i64 a, .int .i64 k2, .string t2, .float .f64 x2, .slice ao2 n2 cp2, .int .i64 a2] 25)
    rw [hW, hq]
    rw [show ((sets5 w' bx (.int .i64 18) (.string T.t) (.float .f64 0) (.slice (some ⟨q, 0, none⟩) 2 2) (.int .i64 T.a)).alloc (.cells #[.int .i64 k2, .string t2, .float .f64 x2, .slice ao2 n2 cp2, .int .i64 a2] 25)).heap.size = w'.heap.size + 1 by simp [sets5]] at this
    rw [hq] at this
    exact this
  have hrow : W.heap[bx]? = some (.cells #[.int .i64 18, .string T.t, .float .f64 0, .slice (some ⟨q, 0, none⟩) 2 2, .int .i64 T.a] 25) := by
    rw [hW]; exact row_past (row_past (sets5_row (row_on h.row hk0 (by omega))) _) _
  have h1 : NodeAt (RB w bx W) W nd (.agg #[.int .i64 k, .string t, .float .f64 x, .slice ao n cp, .int .i64 a]) :=
    (h.node.kept (w' := W) fun j hj => (hkW.block j (by have := hj.2.1; omega) hj.2.2).trans (hk0.block j hj.2.1 (by have := hj.1; omega))).weak fun j hj => ⟨hj.1, by have := hj.2.1; omega, hj.2.2⟩
  have h2 : NodeAt (RB w bx W) W nd2 (.agg #[.int .i64 k2, .string t2, .float .f64 x2, .slice ao2 n2 cp2, .int .i64 a2]) :=
    (hn.kept (w' := W) fun j hj => hkW.block j hj.2 (by have := hj.1; omega)).weak fun j hj => ⟨by have := hj.1; omega, by have := hj.2; omega, by have := hj.1; omega⟩
  refine ⟨hrow, ⟨_, rfl, .inr ⟨q, 0, 2, rfl, Nat.le_refl _, by unfold maxLen; omega⟩, two_kids hWq ⟨by omega, by omega, by omega⟩ h1 h2⟩, ⟨by decide, h.ok, hok, trivial⟩, ?_, (h.ke.trans hk0).own hkW (by omega), ?_, ?_, by have := h.le; omega, fun e => ?_, hf⟩
  · exact St.own h0 hst hkW (by omega)
  · exact (hkW.block _ (by omega) (by omega)).trans (row_on h.r hk0 (by omega))
  · exact (hkW.block _ (by omega) (by omega)).trans (row_on h.s hk0 (by omega))
  · obtain ⟨h3, h4, h5⟩ := h.z rfl
    obtain ⟨h6, h7⟩ := hz e
    refine ⟨h3, by omega, ?_⟩
    simp only [Nd.wt, wtL]
    omega
end
end Go.Proofs.Ytfkgfibmhhlemaa
namespace Go.Proofs.Ytfkgfibmhhlemaa
open Go.RowKit Go.Maps Go.WideMaps
/-- how many tokens are left -/
def left (E : Env) (w : World) : Nat := match w.cell? ⟨E.pb, 1, none⟩ with
  | some (.int _ v) => E.ts.length - v.toNat
  | _ => 0
theorem St.left {E : Env} {w : World} {i : Nat} {c : Int} (h : St E w i c) : left E w = E.ts.length - i := by
  obtain ⟨a0, l, b, d, hb⟩ := h.blk
  unfold Ytfkgfibmhhlemaa.left
  rw [cell_of hb 1 (.int .i64 i) rfl]
  simp
abbrev WB (w : World) : World := (((((w.alloc (.cells row0 25)).alloc (.cells #[.string ⟨#[61, 61]⟩, .string ⟨#[60]⟩] 9)).alloc (.cells #[.string ⟨#[38]⟩] 9)).alloc (.cells #[.string ⟨#[43]⟩, .string ⟨#[45]⟩] 9)).alloc (.cells #[.string ⟨#[42]⟩, .string ⟨#[47]⟩, .string ⟨#[37]⟩] 9)).alloc (.cells #[.slice (some ⟨w.heap.size + 1, 0, none⟩) 2 2, .slice (some ⟨w.heap.size + 1 + 1, 0, none⟩) 1 1, .slice (some ⟨w.heap.size + 1 + 1 + 1, 0, none⟩) 2 2, .slice (some ⟨w.heap.size + 1 + 1 + 1 + 1, 0, none⟩) 3 3] 56)
theorem wb6_size (w : World) : (WB w).heap.size = w.heap.size + 6 := by simp
theorem wb_r (w : World) : (WB w).heap[w.heap.size]? = some (.cells row0 25) := row_past (row_past (row_past (row_past (row_past (heap_alloc_new w _) _) _) _) _) _
theorem wb_0 (w : World) : (WB w).heap[w.heap.size + 1]? = some (.cells #[.string ⟨#[61, 61]⟩, .string ⟨#[60]⟩] 9) := by
  have h := heap_alloc_new (w.alloc (.cells row0 25)) (.cells #[.string ⟨#[61, 61]⟩, .string ⟨#[60]⟩] 9)
  rw [World.size_alloc] at h
  exact row_past (row_past (row_past (row_past h _) _) _) _
theorem wb_1 (w : World) : (WB w).heap[w.heap.size + 1 + 1]? = some (.cells #[.string ⟨#[38]⟩] 9) := by
  have h := heap_alloc_new ((w.alloc (.cells row0 25)).alloc (.cells #[.string ⟨#[61, 61]⟩, .string ⟨#[60]⟩] 9)) (.cells #[.string ⟨#[38]⟩] 9)
  rw [World.size_alloc, World.size_alloc] at h
  exact row_past (row_past (row_past h _) _) _
theorem wb_2 (w : World) : (WB w).heap[w.heap.size + 1 + 1 + 1]? = some (.cells #[.string ⟨#[43]⟩, .string ⟨#[45]⟩] 9) := by
  have h := heap_alloc_new (((w.alloc (.cells row0 25)).alloc (.cells #[.string ⟨#[61, 61]⟩, .string ⟨#[60]⟩] 9)).alloc (.cells #[.string ⟨#[38]⟩] 9)) (.cells #[.string ⟨#[43]⟩, .string ⟨#[45]⟩] 9)
  rw [World.size_alloc, World.size_alloc, World.size_alloc] at h
  exact row_past (row_past h _) _
theorem wb_3 (w : World) : (WB w).heap[w.heap.size + 1 + 1 + 1 + 1]? = some (.cells #[.string ⟨#[42]⟩, .string ⟨#[47]⟩, .string ⟨#[37]⟩] 9) := by
  have h := heap_alloc_new ((((w.alloc (.cells row0 25)).alloc (.cells #[.string ⟨#[61, 61]⟩, .string ⟨#[60]⟩] 9)).alloc (.cells #[.string ⟨#[38]⟩] 9)).alloc (.cells #[.string ⟨#[43]⟩, .string ⟨#[45]⟩] 9)) (.cells #[.string ⟨#[42]⟩, .string ⟨#[47]⟩, .string ⟨#[37]⟩] 9)
  rw [World.size_alloc, World.size_alloc, World.size_alloc, World.size_alloc] at h
  exact row_past h _
theorem wb_kp (w : World) : Kp (fun _ => False) w (WB w) := (((((kp_alloc w _).alloc _).alloc _).alloc _).alloc _).alloc _
theorem sets5_alloc (X : World) (o : Obj) (g : Nat) (hg : g < X.heap.size) (a b c d e : Value) : sets5 (X.alloc o) g a b c d e = (sets5 X g a b c d e).alloc o := by
  unfold sets5
  rw [World.setCell_alloc_past _ _ _ _ hg, World.setCell_alloc_past _ _ _ _ (by rw [sc_size]; exact hg), World.setCell_alloc_past _ _ _ _ (by rw [sc_size, sc_size]; exact hg), World.setCell_alloc_past _ _ _ _ (by rw [sc_size, sc_size, sc_size]; exact hg), World.setCell_alloc_past _ _ _ _ (by rw [sc_size, sc_size, sc_size, sc_size]; exact hg)]
def LiveIf (E : Env) (i : Nat) (T : Tok) (β : Bool) : Prop := β = true → i < E.ts.length ∧ tws E (i + 1) = tws E i + (1 + T.t.size)
/-- a row of strings -/
def Strs (a : Array Value) : Prop := ∀ j, j < a.size → ∃ s, a[j]? = some (.string s)
theorem strs_0 : Strs #[.string ⟨#[61, 61]⟩, .string ⟨#[60]⟩] := fun j hj => by
  have : j < 2 := hj
  match j, this with
  | 0, _ => exact ⟨_, rfl⟩
  | 1, _ => exact ⟨_, rfl⟩
  | q + 2, h => exact absurd h (by omega)
theorem strs_1 : Strs #[.string ⟨#[38]⟩] := fun j hj => by
  have : j < 1 := hj
  match j, this with
  | 0, _ => exact ⟨_, rfl⟩
  | q + 1, h => exact absurd h (by omega)
theorem strs_2 : Strs #[.string ⟨#[43]⟩, .string ⟨#[45]⟩] := fun j hj => by
  have : j < 2 := hj
  match j, this with
  | 0, _ => exact ⟨_, rfl⟩
  | 1, _ => exact ⟨_, rfl⟩
  | q + 2, h => exact absurd h (by omega)
theorem strs_3 : Strs #[.string ⟨#[42]⟩, .string ⟨#[47]⟩, .string ⟨#[37]⟩] := fun j hj => by
  have : j < 3 := hj
  match j, this with
  | 0, _ => exact ⟨_, rfl⟩
  | 1, _ => exact ⟨_, rfl⟩
  | 2, _ => exact ⟨_, rfl⟩
  | q + 3, h => exact absurd h (by omega)
set_option maxHeartbeats 8000000 in
set_option maxRecDepth 100000 in
theorem binary_0 (E : Env) (i : Nat) (hx : BOk 1 E i) (hy : ∀ j, i < j → BOk 1 E j) : BOk 0 E i := by
  intro c w h
  have hsf := store_f
  have hlt := h.lt
  have hfew := h.ok.few
  have hW := h.kp (wb_kp w)
  have hr := wb_r w
  have hs := wb_0 w
  have hss := strs_0
  have hE : Ke E w (WB w) := (wb_kp w).weak
  have hz := wb6_size w
  go_enter Try.func47, Try.ntmps47
  go_wp2_with fail
  obtain ⟨W, hWe⟩ : ∃ W, W = WB w := ⟨_, rfl⟩
  rw [← hWe] at hW hr hs hE hz
  unfold WB row0 at hWe
  simp only [← hWe]
  clear hWe
  go_wp2_with (go_at_call 47; go_must (refine Calls.mono (hx c W hW) ?_; rintro e w4 ⟨nd, V, i', c', rfl, hn, hok, hst, hK, hi, hzz⟩; obtain ⟨k, t, x, ao, n, cp, a, rfl⟩ := hn.five; have hI : BInv E i c w w4.heap.size (w.heap.size + 1) #[.string ⟨#[61, 61]⟩, .string ⟨#[60]⟩] i' c' nd k t x ao n cp a (w4.alloc (.cells #[.int .i64 k, .string t, .float .f64 x, .slice ao n cp, .int .i64 a] 25)) := (by have hKs := hK.size; refine ⟨heap_alloc_new w4 _, (hn.kept (fun j hj => heap_alloc_old w4 _ hj.2)).weak (fun j hj => ⟨by have := hj.1; omega, by have := hj.2; rw [World.size_alloc]; omega, by have := hj.2; omega⟩), hok, hst.alloc _, (hE.trans hK).alloc _, row_past (row_on hr hK (by omega)) _, row_past (row_on hs hK (by omega)) _, hi, hzz, hlt, by omega, by omega⟩); clear hn hok hst hK hi hzz))
  have hI0 := hI
  go_loopw [8] (fun _ wr => ∃ nd k t x ao n cp a i' c', BInv E i c w w4.heap.size (w.heap.size + 1) #[.string ⟨#[61, 61]⟩, .string ⟨#[60]⟩] i' c' nd k t x ao n cp a wr) (fun _ wr => left E wr)
  case atStart => exact ⟨nd, k, t, x, ao, n, cp, a, i', c', hI0⟩
  case round =>
    clear hI hI0 hx
    obtain ⟨nd, k, t, x, ao, n, cp, a, i', c', hI⟩ := hrel
    obtain ⟨a0, l0, b0, d, hblk⟩ := hI.st.blk
    have c4 := cell_of hblk 4 (.int .i64 c') rfl
    have hfar := hI.far
    have hleft := hI.st.left
    by_cases hc : c' = 0
    · subst hc
      clear hblk
      go_wp2_with (go_at_call 24; refine Calls.mono hI.st.look.t ?_; rintro e w5 ⟨rfl, hL, hK⟩; have hT := heap_alloc_new w5 (.cells #[.int .i64 (tk E i' 0).k, .string (tk E i' 0).t, .float .f64 (tk E i' 0).x, .int .i64 (tk E i' 0).a] 68); replace hL := hL.kp (kp_alloc w5 (.cells #[.int .i64 (tk E i' 0).k, .string (tk E i' 0).t, .float .f64 (tk E i' 0).x, .int .i64 (tk E i' 0).a] 68)))
      obtain ⟨w0, hw0⟩ : ∃ w0, w0 = wr := ⟨_, rfl⟩
      subst hw0
      go_loopw [8, 9] (fun is j wr2 => ∃ (β : Bool) (q : Nat), is = .bool β ∧ j = .int .i64 q ∧ q ≤ 2 ∧ Look E i' 0 w0 wr2 ∧ wr2.heap[w5.heap.size]? = some (.cells #[.int .i64 (tk E i' 0).k, .string (tk E i' 0).t, .float .f64 (tk E i' 0).x, .int .i64 (tk E i' 0).a] 68) ∧ LiveIf E i' (tk E i' 0) β) (fun _ j _ => 2 - (intOf j).toNat)
      case atStart => exact ⟨false, 0, rfl, rfl, by omega, hL, hT, fun e => absurd e (by decide)⟩
      case round =>
        obtain ⟨β, q, rfl, rfl, hq, hL2, hT2, hlv⟩ := hrel
        have hw5 : w5.heap.size ≠ E.pb := by have := hK.size; have := hI.st.lt; omega
        have hS := row_on hI.s hL2.ke (by omega)
        by_cases hqn : q < 2
        · obtain ⟨s, hs'⟩ := strs_0 q hqn
          have hcell := cell_of hS q _ hs'
          cases β
          · go_wp2_with (go_at_call 46; refine Calls.mono (hL2.sign s) ?_; rintro e w6 ⟨rfl, hL3, hK3⟩)
            exact ⟨⟨_, q + 1, rfl, by simp, by omega, hL3, row_on hT2 hK3 hw5, fun e => (isOf_tok (by decide) e).2⟩, by simp [intOf]; omega⟩
          · go_wp2_with fail
            exact ⟨⟨true, q + 1, rfl, by simp, by omega, hL2, hT2, hlv⟩, by simp [intOf]; omega⟩
        · obtain rfl : q = 2 := by omega
          cases β
          · obtain ⟨c2, hI2, _⟩ := hI.look hL2
            obtain ⟨⟨q0, q1, q2, q3, q4⟩, _, _, _, _, _⟩ := row5 hI2.row
            obtain ⟨⟨r0, r1, r2, r3, r4⟩, y0, y1, y2, y3, y4⟩ := row5 hI2.r
            go_wp2_with fail
            exact end5b rfl (sets5_row hI2.r) rfl (hI2.done h)
          · obtain ⟨hil, hw⟩ := hlv rfl
            obtain ⟨c2, hI2, hsm⟩ := hI.look hL2
            obtain rfl : c2 = 0 := hsm.live rfl hil
            obtain ⟨a0, l0, b0, d, hblk⟩ := hI2.st.blk
            have c1 := cell_of hblk 1 (.int .i64 i') rfl
            have zf := frozen_of hblk 1
            have hM := hI2.st.moved hil
            have hKM := kp_set1 wr E.pb 1 (.int .i64 (i' + 1))
            clear hblk hS
            go_wp2_with (go_at_call 47; go_must (refine Calls.mono ((hy (i' + 1) (by have := hI2.le; omega)).at hM.look) ?_; rintro e w7 ⟨nd2, k2, t2, x2, ao2, n2, cp2, a2, i2, c2, rfl, hn2, hok2, hst2, hK2, hi2, hz2⟩; have hK7 := hKM.trans hK2; obtain ⟨⟨q0, q1, q2, q3, q4⟩, s0, s1, s2, s3, s4⟩ := row5 (row_on hI2.row hK7 (by have := hI2.far; omega)); obtain ⟨⟨p0, p1, p2, p3⟩, z0, z1, z2, z3⟩ := row4 (row_on hT2 hK7 hw5); obtain ⟨⟨r0, r1, r2, r3, r4⟩, y0, y1, y2, y3, y4⟩ := row5 (row_on hI2.r hK7 (by have := hI2.far; omega)); have hbl := blk_lt (row_on hI2.row hK7 (by have := hI2.far; omega)); have hrl := blk_lt (row_on hI2.r hK7 (by have := hI2.far; omega)); have htl := blk_lt (row_on hT2 hK7 hw5)))
            have hP := hI2.push h (tk E i' 0) hw (i' + 1) hn2 hok2 hst2 hK2 hi2 (fun e => (hz2 e).2) rfl rfl
            have hD := hP.done h
            rw [sets5_alloc _ _ _ (by simp [sets5]; omega), sets5_alloc _ _ _ (by simp [sets5]; omega)] at hD
            exact end5b rfl (row_past (row_past (sets5_row (row_on (row_on hI2.r hK7 (by have := hI2.far; omega)) (kp_sets5 w7 w4.heap.size _ _ _ _ _) (by have := hI2.far; omega))) _) _) rfl hD
    · have hcb : (c' == 0) = false := by simpa using hc
      obtain ⟨⟨q0, q1, q2, q3, q4⟩, _, _, _, _, _⟩ := row5 hI.row
      obtain ⟨⟨r0, r1, r2, r3, r4⟩, y0, y1, y2, y3, y4⟩ := row5 hI.r
      clear hblk
      go_wp2_with fail
      exact end5b rfl (sets5_row hI.r) rfl (hI.done h)
set_option maxHeartbeats 8000000 in
set_option maxRecDepth 100000 in
theorem binary_1 (E : Env) (i : Nat) (hx : BOk 2 E i) (hy : ∀ j, i < j → BOk 2 E j) : BOk 1 E i := by
  intro c w h
  have hsf := store_f
  have hlt := h.lt
  have hfew := h.ok.few
  have hW := h.kp (wb_kp w)
  have hr := wb_r w
  have hs := wb_1 w
  have hss := strs_1
  have hE : Ke E w (WB w) := (wb_kp w).weak
  have hz := wb6_size w
  go_enter Try.func47, Try.ntmps47
  go_wp2_with fail
  obtain ⟨W, hWe⟩ : ∃ W, W = WB w := ⟨_, rfl⟩
  rw [← hWe] at hW hr hs hE hz
  unfold WB row0 at hWe
  simp only [← hWe]
  clear hWe
  go_wp2_with (go_at_call 47; go_must (refine Calls.mono (hx c W hW) ?_; rintro e w4 ⟨nd, V, i', c', rfl, hn, hok, hst, hK, hi, hzz⟩; obtain ⟨k, t, x, ao, n, cp, a, rfl⟩ := hn.five; have hI : BInv E i c w w4.heap.size (w.heap.size + 1 + 1) #[.string ⟨#[38]⟩] i' c' nd k t x ao n cp a (w4.alloc (.cells #[.int .i64 k, .string t, .float .f64 x, .slice ao n cp, .int .i64 a] 25)) := (by have hKs := hK.size; refine ⟨heap_alloc_new w4 _, (hn.kept (fun j hj => heap_alloc_old w4 _ hj.2)).weak (fun j hj => ⟨by have := hj.1; omega, by have := hj.2; rw [World.size_alloc]; omega, by have := hj.2; omega⟩), hok, hst.alloc _, (hE.trans hK).alloc _, row_past (row_on hr hK (by omega)) _, row_past (row_on hs hK (by omega)) _, hi, hzz, hlt, by omega, by omega⟩); clear hn hok hst hK hi hzz))
  have hI0 := hI
  go_loopw [8] (fun _ wr => ∃ nd k t x ao n cp a i' c', BInv E i c w w4.heap.size (w.heap.size + 1 + 1) #[.string ⟨#[38]⟩] i' c' nd k t x ao n cp a wr) (fun _ wr => left E wr)
  case atStart => exact ⟨nd, k, t, x, ao, n, cp, a, i', c', hI0⟩
  case round =>
    clear hI hI0 hx
    obtain ⟨nd, k, t, x, ao, n, cp, a, i', c', hI⟩ := hrel
    obtain ⟨a0, l0, b0, d, hblk⟩ := hI.st.blk
    have c4 := cell_of hblk 4 (.int .i64 c') rfl
    have hfar := hI.far
    have hleft := hI.st.left
    by_cases hc : c' = 0
    · subst hc
      clear hblk
      go_wp2_with (go_at_call 24; refine Calls.mono hI.st.look.t ?_; rintro e w5 ⟨rfl, hL, hK⟩; have hT := heap_alloc_new w5 (.cells #[.int .i64 (tk E i' 0).k, .string (tk E i' 0).t, .float .f64 (tk E i' 0).x, .int .i64 (tk E i' 0).a] 68); replace hL := hL.kp (kp_alloc w5 (.cells #[.int .i64 (tk E i' 0).k, .string (tk E i' 0).t, .float .f64 (tk E i' 0).x, .int .i64 (tk E i' 0).a] 68)))
      obtain ⟨w0, hw0⟩ : ∃ w0, w0 = wr := ⟨_, rfl⟩
      subst hw0
      go_loopw [8, 9] (fun is j wr2 => ∃ (β : Bool) (q : Nat), is = .bool β ∧ j = .int .i64 q ∧ q ≤ 1 ∧ Look E i' 0 w0 wr2 ∧ wr2.heap[w5.heap.size]? = some (.cells #[.int .i64 (tk E i' 0).k, .string (tk E i' 0).t, .float .f64 (tk E i' 0).x, .int .i64 (tk E i' 0).a] 68) ∧ LiveIf E i' (tk E i' 0) β) (fun _ j _ => 1 - (intOf j).toNat)
      case atStart => exact ⟨false, 0, rfl, rfl, by omega, hL, hT, fun e => absurd e (by decide)⟩
      case round =>
        obtain ⟨β, q, rfl, rfl, hq, hL2, hT2, hlv⟩ := hrel
        have hw5 : w5.heap.size ≠ E.pb := by have := hK.size; have := hI.st.lt; omega
        have hS := row_on hI.s hL2.ke (by omega)
        by_cases hqn : q < 1
        · obtain ⟨s, hs'⟩ := strs_1 q hqn
          have hcell := cell_of hS q _ hs'
          cases β
          · go_wp2_with (go_at_call 46; refine Calls.mono (hL2.sign s) ?_; rintro e w6 ⟨rfl, hL3, hK3⟩)
            exact ⟨⟨_, q + 1, rfl, by simp, by omega, hL3, row_on hT2 hK3 hw5, fun e => (isOf_tok (by decide) e).2⟩, by simp [intOf]; omega⟩
          · go_wp2_with fail
            exact ⟨⟨true, q + 1, rfl, by simp, by omega, hL2, hT2, hlv⟩, by simp [intOf]; omega⟩
        · obtain rfl : q = 1 := by omega
          cases β
          · obtain ⟨c2, hI2, _⟩ := hI.look hL2
            obtain ⟨⟨q0, q1, q2, q3, q4⟩, _, _, _, _, _⟩ := row5 hI2.row
            obtain ⟨⟨r0, r1, r2, r3, r4⟩, y0, y1, y2, y3, y4⟩ := row5 hI2.r
            go_wp2_with fail
            exact end5b rfl (sets5_row hI2.r) rfl (hI2.done h)
          · obtain ⟨hil, hw⟩ := hlv rfl
            obtain ⟨c2, hI2, hsm⟩ := hI.look hL2
            obtain rfl : c2 = 0 := hsm.live rfl hil
            obtain ⟨a0, l0, b0, d, hblk⟩ := hI2.st.blk
            have c1 := cell_of hblk 1 (.int .i64 i') rfl
            have zf := frozen_of hblk 1
            have hM := hI2.st.moved hil
            have hKM := kp_set1 wr E.pb 1 (.int .i64 (i' + 1))
            clear hblk hS
            go_wp2_with (go_at_call 47; go_must (refine Calls.mono ((hy (i' + 1) (by have := hI2.le; omega)).at hM.look) ?_; rintro e w7 ⟨nd2, k2, t2, x2, ao2, n2, cp2, a2, i2, c2, rfl, hn2, hok2, hst2, hK2, hi2, hz2⟩; have hK7 := hKM.trans hK2; obtain ⟨⟨q0, q1, q2, q3, q4⟩, s0, s1, s2, s3, s4⟩ := row5 (row_on hI2.row hK7 (by have := hI2.far; omega)); obtain ⟨⟨p0, p1, p2, p3⟩, z0, z1, z2, z3⟩ := row4 (row_on hT2 hK7 hw5); obtain ⟨⟨r0, r1, r2, r3, r4⟩, y0, y1, y2, y3, y4⟩ := row5 (row_on hI2.r hK7 (by have := hI2.far; omega)); have hbl := blk_lt (row_on hI2.row hK7 (by have := hI2.far; omega)); have hrl := blk_lt (row_on hI2.r hK7 (by have := hI2.far; omega)); have htl := blk_lt (row_on hT2 hK7 hw5)))
            have hP := hI2.push h (tk E i' 0) hw (i' + 1) hn2 hok2 hst2 hK2 hi2 (fun e => (hz2 e).2) rfl rfl
            exact ⟨⟨_, _, _, _, _, _, _, _, _, _, hP⟩, by rw [hP.st.left, hleft]; omega⟩
    · have hcb : (c' == 0) = false := by simpa using hc
      obtain ⟨⟨q0, q1, q2, q3, q4⟩, _, _, _, _, _⟩ := row5 hI.row
      obtain ⟨⟨r0, r1, r2, r3, r4⟩, y0, y1, y2, y3, y4⟩ := row5 hI.r
      clear hblk
      go_wp2_with fail
      exact end5b rfl (sets5_row hI.r) rfl (hI.done h)
set_option maxHeartbeats 8000000 in
set_option maxRecDepth 100000 in
theorem binary_2 (E : Env) (i : Nat) (hx : BOk 3 E i) (hy : ∀ j, i < j → BOk 3 E j) : BOk 2 E i := by
  intro c w h
  have hsf := store_f
  have hlt := h.lt
  have hfew := h.ok.few
  have hW := h.kp (wb_kp w)
  have hr := wb_r w
  have hs := wb_2 w
  have hss := strs_2
  have hE : Ke E w (WB w) := (wb_kp w).weak
  have hz := wb6_size w
  go_enter Try.func47, Try.ntmps47
  go_wp2_with fail
  obtain ⟨W, hWe⟩ : ∃ W, W = WB w := ⟨_, rfl⟩
  rw [← hWe] at hW hr hs hE hz
  unfold WB row0 at hWe
  simp only [← hWe]
  clear hWe
  go_wp2_with (go_at_call 47; go_must (refine Calls.mono (hx c W hW) ?_; rintro e w4 ⟨nd, V, i', c', rfl, hn, hok, hst, hK, hi, hzz⟩; obtain ⟨k, t, x, ao, n, cp, a, rfl⟩ := hn.five; have hI : BInv E i c w w4.heap.size (w.heap.size + 1 + 1 + 1) #[.string ⟨#[43]⟩, .string ⟨#[45]⟩] i' c' nd k t x ao n cp a (w4.alloc (.cells #[.int .i64 k, .string t, .float .f64 x, .slice ao n cp, .int .i64 a] 25)) := (by have hKs := hK.size; refine ⟨heap_alloc_new w4 _, (hn.kept (fun j hj => heap_alloc_old w4 _ hj.2)).weak (fun j hj => ⟨by have := hj.1; omega, by have := hj.2; rw [World.size_alloc]; omega, by have := hj.2; omega⟩), hok, hst.alloc _, (hE.trans hK).alloc _, row_past (row_on hr hK (by omega)) _, row_past (row_on hs hK (by omega)) _, hi, hzz, hlt, by omega, by omega⟩); clear hn hok hst hK hi hzz))
  have hI0 := hI
  go_loopw [8] (fun _ wr => ∃ nd k t x ao n cp a i' c', BInv E i c w w4.heap.size (w.heap.size + 1 + 1 + 1) #[.string ⟨#[43]⟩, .string ⟨#[45]⟩] i' c' nd k t x ao n cp a wr) (fun _ wr => left E wr)
  case atStart => exact ⟨nd, k, t, x, ao, n, cp, a, i', c', hI0⟩
  case round =>
    clear hI hI0 hx
    obtain ⟨nd, k, t, x, ao, n, cp, a, i', c', hI⟩ := hrel
    obtain ⟨a0, l0, b0, d, hblk⟩ := hI.st.blk
    have c4 := cell_of hblk 4 (.int .i64 c') rfl
    have hfar := hI.far
    have hleft := hI.st.left
    by_cases hc : c' = 0
    · subst hc
      clear hblk
      go_wp2_with (go_at_call 24; refine Calls.mono hI.st.look.t ?_; rintro e w5 ⟨rfl, hL, hK⟩; have hT := heap_alloc_new w5 (.cells #[.int .i64 (tk E i' 0).k, .string (tk E i' 0).t, .float .f64 (tk E i' 0).x, .int .i64 (tk E i' 0).a] 68); replace hL := hL.kp (kp_alloc w5 (.cells #[.int .i64 (tk E i' 0).k, .string (tk E i' 0).t, .float .f64 (tk E i' 0).x, .int .i64 (tk E i' 0).a] 68)))
      obtain ⟨w0, hw0⟩ : ∃ w0, w0 = wr := ⟨_, rfl⟩
      subst hw0
      go_loopw [8, 9] (fun is j wr2 => ∃ (β : Bool) (q : Nat), is = .bool β ∧ j = .int .i64 q ∧ q ≤ 2 ∧ Look E i' 0 w0 wr2 ∧ wr2.heap[w5.heap.size]? = some (.cells #[.int .i64 (tk E i' 0).k, .string (tk E i' 0).t, .float .f64 (tk E i' 0).x, .int .i64 (tk E i' 0).a] 68) ∧ LiveIf E i' (tk E i' 0) β) (fun _ j _ => 2 - (intOf j).toNat)
      case atStart => exact ⟨false, 0, rfl, rfl, by omega, hL, hT, fun e => absurd e (by decide)⟩
      case round =>
        obtain ⟨β, q, rfl, rfl, hq, hL2, hT2, hlv⟩ := hrel
        have hw5 : w5.heap.size ≠ E.pb := by have := hK.size; have := hI.st.lt; omega
        have hS := row_on hI.s hL2.ke (by omega)
        by_cases hqn : q < 2
        · obtain ⟨s, hs'⟩ := strs_2 q hqn
          have hcell := cell_of hS q _ hs'
          cases β
          · go_wp2_with (go_at_call 46; refine Calls.mono (hL2.sign s) ?_; rintro e w6 ⟨rfl, hL3, hK3⟩)
            exact ⟨⟨_, q + 1, rfl, by simp, by omega, hL3, row_on hT2 hK3 hw5, fun e => (isOf_tok (by decide) e).2⟩, by simp [intOf]; omega⟩
          · go_wp2_with fail
            exact ⟨⟨true, q + 1, rfl, by simp, by omega, hL2, hT2, hlv⟩, by simp [intOf]; omega⟩
        · obtain rfl : q = 2 := by omega
          cases β
          · obtain ⟨c2, hI2, _⟩ := hI.look hL2
            obtain ⟨⟨q0, q1, q2, q3, q4⟩, _, _, _, _, _⟩ := row5 hI2.row
            obtain ⟨⟨r0, r1, r2, r3, r4⟩, y0, y1, y2, y3, y4⟩ := row5 hI2.r
            go_wp2_with fail
            exact end5b rfl (sets5_row hI2.r) rfl (hI2.done h)
          · obtain ⟨hil, hw⟩ := hlv rfl
            obtain ⟨c2, hI2, hsm⟩ := hI.look hL2
            obtain rfl : c2 = 0 := hsm.live rfl hil
            obtain ⟨a0, l0, b0, d, hblk⟩ := hI2.st.blk
            have c1 := cell_of hblk 1 (.int .i64 i') rfl
            have zf := frozen_of hblk 1
            have hM := hI2.st.moved hil
            have hKM := kp_set1 wr E.pb 1 (.int .i64 (i' + 1))
            clear hblk hS
            go_wp2_with (go_at_call 47; go_must (refine Calls.mono ((hy (i' + 1) (by have := hI2.le; omega)).at hM.look) ?_; rintro e w7 ⟨nd2, k2, t2, x2, ao2, n2, cp2, a2, i2, c2, rfl, hn2, hok2, hst2, hK2, hi2, hz2⟩; have hK7 := hKM.trans hK2; obtain ⟨⟨q0, q1, q2, q3, q4⟩, s0, s1, s2, s3, s4⟩ := row5 (row_on hI2.row hK7 (by have := hI2.far; omega)); obtain ⟨⟨p0, p1, p2, p3⟩, z0, z1, z2, z3⟩ := row4 (row_on hT2 hK7 hw5); obtain ⟨⟨r0, r1, r2, r3, r4⟩, y0, y1, y2, y3, y4⟩ := row5 (row_on hI2.r hK7 (by have := hI2.far; omega)); have hbl := blk_lt (row_on hI2.row hK7 (by have := hI2.far; omega)); have hrl := blk_lt (row_on hI2.r hK7 (by have := hI2.far; omega)); have htl := blk_lt (row_on hT2 hK7 hw5)))
            have hP := hI2.push h (tk E i' 0) hw (i' + 1) hn2 hok2 hst2 hK2 hi2 (fun e => (hz2 e).2) rfl rfl
            exact ⟨⟨_, _, _, _, _, _, _, _, _, _, hP⟩, by rw [hP.st.left, hleft]; omega⟩
    · have hcb : (c' == 0) = false := by simpa using hc
      obtain ⟨⟨q0, q1, q2, q3, q4⟩, _, _, _, _, _⟩ := row5 hI.row
      obtain ⟨⟨r0, r1, r2, r3, r4⟩, y0, y1, y2, y3, y4⟩ := row5 hI.r
      clear hblk
      go_wp2_with fail
      exact end5b rfl (sets5_row hI.r) rfl (hI.done h)
set_option maxHeartbeats 8000000 in
set_option maxRecDepth 100000 in
theorem binary_3 (E : Env) (i : Nat) (hx : BOk 4 E i) (hy : ∀ j, i < j → BOk 4 E j) : BOk 3 E i := by
  intro c w h
  have hsf := store_f
  have hlt := h.lt
  have hfew := h.ok.few
  have hW := h.kp (wb_kp w)
  have hr := wb_r w
  have hs := wb_3 w
  have hss := strs_3
  have hE : Ke E w (WB w) := (wb_kp w).weak
  have hz := wb6_size w
  go_enter Try.func47, Try.ntmps47
  go_wp2_with fail
  obtain ⟨W, hWe⟩ : ∃ W, W = WB w := ⟨_, rfl⟩
  rw [← hWe] at hW hr hs hE hz
  unfold WB row0 at hWe
  simp only [← hWe]
  clear hWe
  go_wp2_with (go_at_call 47; go_must (refine Calls.mono (hx c W hW) ?_; rintro e w4 ⟨nd, V, i', c', rfl, hn, hok, hst, hK, hi, hzz⟩; obtain ⟨k, t, x, ao, n, cp, a, rfl⟩ := hn.five; have hI : BInv E i c w w4.heap.size (w.heap.size + 1 + 1 + 1 + 1) #[.string ⟨#[42]⟩, .string ⟨#[47]⟩, .string ⟨#[37]⟩] i' c' nd k t x ao n cp a (w4.alloc (.cells #[.int .i64 k, .string t, .float .f64 x, .slice ao n cp, .int .i64 a] 25)) := (by have hKs := hK.size; refine ⟨heap_alloc_new w4 _, (hn.kept (fun j hj => heap_alloc_old w4 _ hj.2)).weak (fun j hj => ⟨by have := hj.1; omega, by have := hj.2; rw [World.size_alloc]; omega, by have := hj.2; omega⟩), hok, hst.alloc _, (hE.trans hK).alloc _, row_past (row_on hr hK (by omega)) _, row_past (row_on hs hK (by omega)) _, hi, hzz, hlt, by omega, by omega⟩); clear hn hok hst hK hi hzz))
  have hI0 := hI
  go_loopw [8] (fun _ wr => ∃ nd k t x ao n cp a i' c', BInv E i c w w4.heap.size (w.heap.size + 1 + 1 + 1 + 1) #[.string ⟨#[42]⟩, .string ⟨#[47]⟩, .string ⟨#[37]⟩] i' c' nd k t x ao n cp a wr) (fun _ wr => left E wr)
  case atStart => exact ⟨nd, k, t, x, ao, n, cp, a, i', c', hI0⟩
  case round =>
    clear hI hI0 hx
    obtain ⟨nd, k, t, x, ao, n, cp, a, i', c', hI⟩ := hrel
    obtain ⟨a0, l0, b0, d, hblk⟩ := hI.st.blk
    have c4 := cell_of hblk 4 (.int .i64 c') rfl
    have hfar := hI.far
    have hleft := hI.st.left
    by_cases hc : c' = 0
    · subst hc
      clear hblk
      go_wp2_with (go_at_call 24; refine Calls.mono hI.st.look.t ?_; rintro e w5 ⟨rfl, hL, hK⟩; have hT := heap_alloc_new w5 (.cells #[.int .i64 (tk E i' 0).k, .string (tk E i' 0).t, .float .f64 (tk E i' 0).x, .int .i64 (tk E i' 0).a] 68); replace hL := hL.kp (kp_alloc w5 (.cells #[.int .i64 (tk E i' 0).k, .string (tk E i' 0).t, .float .f64 (tk E i' 0).x, .int .i64 (tk E i' 0).a] 68)))
      obtain ⟨w0, hw0⟩ : ∃ w0, w0 = wr := ⟨_, rfl⟩
      subst hw0
      go_loopw [8, 9] (fun is j wr2 => ∃ (β : Bool) (q : Nat), is = .bool β ∧ j = .int .i64 q ∧ q ≤ 3 ∧ Look E i' 0 w0 wr2 ∧ wr2.heap[w5.heap.size]? = some (.cells #[.int .i64 (tk E i' 0).k, .string (tk E i' 0).t, .float .f64 (tk E i' 0).x, .int .i64 (tk E i' 0).a] 68) ∧ LiveIf E i' (tk E i' 0) β) (fun _ j _ => 3 - (intOf j).toNat)
      case atStart => exact ⟨false, 0, rfl, rfl, by omega, hL, hT, fun e => absurd e (by decide)⟩
      case round =>
        obtain ⟨β, q, rfl, rfl, hq, hL2, hT2, hlv⟩ := hrel
        have hw5 : w5.heap.size ≠ E.pb := by have := hK.size; have := hI.st.lt; omega
        have hS := row_on hI.s hL2.ke (by omega)
        by_cases hqn : q < 3
        · obtain ⟨s, hs'⟩ := strs_3 q hqn
          have hcell := cell_of hS q _ hs'
          cases β
          · go_wp2_with (go_at_call 46; refine Calls.mono (hL2.sign s) ?_; rintro e w6 ⟨rfl, hL3, hK3⟩)
            exact ⟨⟨_, q + 1, rfl, by simp, by omega, hL3, row_on hT2 hK3 hw5, fun e => (isOf_tok (by decide) e).2⟩, by simp [intOf]; omega⟩
          · go_wp2_with fail
            exact ⟨⟨true, q + 1, rfl, by simp, by omega, hL2, hT2, hlv⟩, by simp [intOf]; omega⟩
        · obtain rfl : q = 3 := by omega
          cases β
          · obtain ⟨c2, hI2, _⟩ := hI.look hL2
            obtain ⟨⟨q0, q1, q2, q3, q4⟩, _, _, _, _, _⟩ := row5 hI2.row
            obtain ⟨⟨r0, r1, r2, r3, r4⟩, y0, y1, y2, y3, y4⟩ := row5 hI2.r
            go_wp2_with fail
            exact end5b rfl (sets5_row hI2.r) rfl (hI2.done h)
          · obtain ⟨hil, hw⟩ := hlv rfl
            obtain ⟨c2, hI2, hsm⟩ := hI.look hL2
            obtain rfl : c2 = 0 := hsm.live rfl hil
            obtain ⟨a0, l0, b0, d, hblk⟩ := hI2.st.blk
            have c1 := cell_of hblk 1 (.int .i64 i') rfl
            have zf := frozen_of hblk 1
            have hM := hI2.st.moved hil
            have hKM := kp_set1 wr E.pb 1 (.int .i64 (i' + 1))
            clear hblk hS
            go_wp2_with (go_at_call 47; go_must (refine Calls.mono ((hy (i' + 1) (by have := hI2.le; omega)).at hM.look) ?_; rintro e w7 ⟨nd2, k2, t2, x2, ao2, n2, cp2, a2, i2, c2, rfl, hn2, hok2, hst2, hK2, hi2, hz2⟩; have hK7 := hKM.trans hK2; obtain ⟨⟨q0, q1, q2, q3, q4⟩, s0, s1, s2, s3, s4⟩ := row5 (row_on hI2.row hK7 (by have := hI2.far; omega)); obtain ⟨⟨p0, p1, p2, p3⟩, z0, z1, z2, z3⟩ := row4 (row_on hT2 hK7 hw5); obtain ⟨⟨r0, r1, r2, r3, r4⟩, y0, y1, y2, y3, y4⟩ := row5 (row_on hI2.r hK7 (by have := hI2.far; omega)); have hbl := blk_lt (row_on hI2.row hK7 (by have := hI2.far; omega)); have hrl := blk_lt (row_on hI2.r hK7 (by have := hI2.far; omega)); have htl := blk_lt (row_on hT2 hK7 hw5)))
            have hP := hI2.push h (tk E i' 0) hw (i' + 1) hn2 hok2 hst2 hK2 hi2 (fun e => (hz2 e).2) rfl rfl
            exact ⟨⟨_, _, _, _, _, _, _, _, _, _, hP⟩, by rw [hP.st.left, hleft]; omega⟩
    · have hcb : (c' == 0) = false := by simpa using hc
      obtain ⟨⟨q0, q1, q2, q3, q4⟩, _, _, _, _, _⟩ := row5 hI.row
      obtain ⟨⟨r0, r1, r2, r3, r4⟩, y0, y1, y2, y3, y4⟩ := row5 hI.r
      clear hblk
      go_wp2_with fail
      exact end5b rfl (sets5_row hI.r) rfl (hI.done h)
end Go.Proofs.Ytfkgfibmhhlemaa

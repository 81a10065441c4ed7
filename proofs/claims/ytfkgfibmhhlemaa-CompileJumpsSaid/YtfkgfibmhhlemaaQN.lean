/- CompileScripts: a part of the proof: primaries, blocks (N0 N1 N2 N3 N4 N5 N6 N7). No conditions. -/
import Derived.Test.YtfkgfibmhhlemaaQM
namespace Go.Proofs.Ytfkgfibmhhlemaa
open Go.RowKit Go.Maps Go.WideMaps
theorem tk_next {E : Env} {i : Nat} {c : Int} (h : (tk E i c).k ≠ 0) : c = 0 ∧ i < E.ts.length ∧ tws E (i + 1) = tws E i + (1 + (tk E i c).t.size) := by
  obtain ⟨rfl, hi⟩ := tk_live h
  refine ⟨rfl, hi, ?_⟩
  rw [tws_succ E i hi]
  unfold tk
  simp [hi]
/-- a leaf: one token taken -/
theorem leaf_end {E : Env} {i : Nat} {c : Int} {w X : World} (h : St E w i c) (hc : c = 0) (hX : St E X (i + 1) 0) (hE : Ke E w X) (kk : Int) (hkk : (Lit.int .i64 kk).wf = true) (t : ByteArray) (x : Nat) (a : Int) (hw : 1 + t.size + tws E i ≤ tws E (i + 1)) :
    NPost E i c w (.returned (.agg #[.int .i64 kk, .string t, .float .f64 x, .slice none 0 0, .int .i64 a])) (sets5 X w.heap.size (.int .i64 kk) (.string t) (.float .f64 x) (.slice none 0 0) (.int .i64 a)) :=
  ⟨.mk kk t x [] a, _, i + 1, 0, rfl, ⟨_, rfl, .inl ⟨rfl, none, 0, rfl, Nat.zero_le _⟩, trivial⟩, ⟨hkk, trivial⟩, St.own h hX (kp_sets5 _ _ _ _ _ _ _) (Nat.le_refl _), hE.own (kp_sets5 _ _ _ _ _ _ _) (Nat.le_refl _), by omega, fun _ => ⟨hc, by omega, by simp only [Nd.wt, wtL]; omega⟩⟩
set_option maxHeartbeats 4000000 in
set_option maxRecDepth 100000 in
theorem primary_number (E : Env) (i : Nat) (c : Int) (w : World) (h : St E w i c) (hk : (tk E i c).k = 2) : Calls Try.prog 67 #[pt E.pb 0] w (NPost E i c w) := by
  obtain ⟨rfl, hi0, hw0⟩ := tk_next (E := E) (i := i) (c := c) (by rw [hk]; decide)
  have hsf := store_f
  have hlt := h.lt
  have hfew := h.ok.few
  have hcap := h.ok.le
  have hilen := h.len
  have hL0 := (h.alloc (.cells row0 25)).look
  have hR : (w.alloc (.cells row0 25)).heap[w.heap.size]? = some (.cells row0 25) := heap_alloc_new w _
  have hg : w.heap.size ≠ E.pb := by omega
  have ht := hL0.t
  have hk2 : ((tk E i 0).k == 2) = true := by rw [hk]; rfl
  clear hk
  go_enter Try.func67, Try.ntmps67
  go_wp2_with (first
    | (go_at_call 24; refine Calls.mono ht ?_; rintro e w1 ⟨rfl, hL, hK⟩; clear ht; replace hR := row_past (row_on hR hK hg) (.cells #[.int .i64 (tk E i 0).k, .string (tk E i 0).t, .float .f64 (tk E i 0).x, .int .i64 (tk E i 0).a] 68); have hT := heap_alloc_new w1 (.cells #[.int .i64 (tk E i 0).k, .string (tk E i 0).t, .float .f64 (tk E i 0).x, .int .i64 (tk E i 0).a] 68); have hg1 : w1.heap.size ≠ E.pb := (by have := hK.size; simp at this; omega); have hs1 := hK.size; have hE := ((kp_alloc w (.cells row0 25)).weak.trans hK).alloc (.cells #[.int .i64 (tk E i 0).k, .string (tk E i 0).t, .float .f64 (tk E i 0).x, .int .i64 (tk E i 0).a] 68); replace hL := hL.kp (kp_alloc w1 (.cells #[.int .i64 (tk E i 0).k, .string (tk E i 0).t, .float .f64 (tk E i 0).x, .int .i64 (tk E i 0).a] 68)); have hS := hL.live rfl hi0; obtain ⟨a0, l, b0, d, hblk⟩ := hS.blk; have hblt := hS.lt; have c1 := cell_of hblk 1 (.int .i64 i) rfl; have zf := frozen_of hblk 1; clear hblk; have hM := hS.moved hi0; obtain ⟨⟨r0, r1, r2, r3, r4⟩, y0, y1, y2, y3, y4⟩ := row5 hR; obtain ⟨⟨p0, p1, p2, p3⟩, z0, z1, z2, z3⟩ := row4 hT))
  exact end5 rfl (sets5_row (row_on hR (kp_set1 _ E.pb 1 _) hg)) rfl (leaf_end h rfl hM (hE.trans (kp_set1 _ _ _ _)) 15 (by decide) ⟨#[]⟩ (tk E i 0).x _ (by have e : (⟨#[]⟩ : ByteArray).size = 0 := rfl; omega))
set_option maxHeartbeats 4000000 in
set_option maxRecDepth 100000 in
theorem primary_text (E : Env) (i : Nat) (c : Int) (w : World) (h : St E w i c) (hk : (tk E i c).k = 3) : Calls Try.prog 67 #[pt E.pb 0] w (NPost E i c w) := by
  obtain ⟨rfl, hi0, hw0⟩ := tk_next (E := E) (i := i) (c := c) (by rw [hk]; decide)
  have hsf := store_f
  have hlt := h.lt
  have hfew := h.ok.few
  have hcap := h.ok.le
  have hilen := h.len
  have hL0 := (h.alloc (.cells row0 25)).look
  have hR : (w.alloc (.cells row0 25)).heap[w.heap.size]? = some (.cells row0 25) := heap_alloc_new w _
  have hg : w.heap.size ≠ E.pb := by omega
  have ht := hL0.t
  have hk2 : ((tk E i 0).k == 2) = false := by rw [hk]; rfl
  have hk3 : ((tk E i 0).k == 3) = true := by rw [hk]; rfl
  clear hk
  go_enter Try.func67, Try.ntmps67
  go_wp2_with (first
    | (go_at_call 24; refine Calls.mono ht ?_; rintro e w1 ⟨rfl, hL, hK⟩; clear ht; replace hR := row_past (row_on hR hK hg) (.cells #[.int .i64 (tk E i 0).k, .string (tk E i 0).t, .float .f64 (tk E i 0).x, .int .i64 (tk E i 0).a] 68); have hT := heap_alloc_new w1 (.cells #[.int .i64 (tk E i 0).k, .string (tk E i 0).t, .float .f64 (tk E i 0).x, .int .i64 (tk E i 0).a] 68); have hg1 : w1.heap.size ≠ E.pb := (by have := hK.size; simp at this; omega); have hs1 := hK.size; have hE := ((kp_alloc w (.cells row0 25)).weak.trans hK).alloc (.cells #[.int .i64 (tk E i 0).k, .string (tk E i 0).t, .float .f64 (tk E i 0).x, .int .i64 (tk E i 0).a] 68); replace hL := hL.kp (kp_alloc w1 (.cells #[.int .i64 (tk E i 0).k, .string (tk E i 0).t, .float .f64 (tk E i 0).x, .int .i64 (tk E i 0).a] 68)); have hS := hL.live rfl hi0; obtain ⟨a0, l, b0, d, hblk⟩ := hS.blk; have hblt := hS.lt; have c1 := cell_of hblk 1 (.int .i64 i) rfl; have zf := frozen_of hblk 1; clear hblk; have hM := hS.moved hi0; obtain ⟨⟨r0, r1, r2, r3, r4⟩, y0, y1, y2, y3, y4⟩ := row5 hR; obtain ⟨⟨p0, p1, p2, p3⟩, z0, z1, z2, z3⟩ := row4 hT))
  exact end5 rfl (sets5_row (row_on hR (kp_set1 _ E.pb 1 _) hg)) rfl (leaf_end h rfl hM (hE.trans (kp_set1 _ _ _ _)) 16 (by decide) (tk E i 0).t 0 _ (by have e : (⟨#[]⟩ : ByteArray).size = 0 := rfl; omega))
set_option maxHeartbeats 4000000 in
set_option maxRecDepth 100000 in
theorem primary_paren (E : Env) (i : Nat) (c : Int) (w : World) (h : St E w i c) (hin : i < E.ts.length → NOk 73 E (i + 1)) (hs : isOf 4 (tk E i c) ⟨#[40]⟩ = true) : Calls Try.prog 67 #[pt E.pb 0] w (NPost E i c w) := by
  obtain ⟨rfl, hi0, hw0⟩ := isOf_tok (by decide) hs
  have hk4 : (tk E i 0).k = 4 := by unfold isOf at hs; simp at hs; exact hs.1
  have hsf := store_f
  have hlt := h.lt
  have hfew := h.ok.few
  have hcap := h.ok.le
  have hilen := h.len
  have hL0 := (h.alloc (.cells row0 25)).look
  have hR : (w.alloc (.cells row0 25)).heap[w.heap.size]? = some (.cells row0 25) := heap_alloc_new w _
  have hg : w.heap.size ≠ E.pb := by omega
  have ht := hL0.t
  have hk2 : ((tk E i 0).k == 2) = false := by rw [hk4]; rfl
  have hk3 : ((tk E i 0).k == 3) = false := by rw [hk4]; rfl
  clear hk4
  go_enter Try.func67, Try.ntmps67
  go_wp2_with (first
    | (go_at_call 24; refine Calls.mono ht ?_; rintro e w1 ⟨rfl, hL, hK⟩; clear ht; replace hR := row_past (row_on hR hK hg) (.cells #[.int .i64 (tk E i 0).k, .string (tk E i 0).t, .float .f64 (tk E i 0).x, .int .i64 (tk E i 0).a] 68); have hT := heap_alloc_new w1 (.cells #[.int .i64 (tk E i 0).k, .string (tk E i 0).t, .float .f64 (tk E i 0).x, .int .i64 (tk E i 0).a] 68); have hg1 : w1.heap.size ≠ E.pb := (by have := hK.size; simp at this; omega); have hs1 := hK.size; have hE := ((kp_alloc w (.cells row0 25)).weak.trans hK).alloc (.cells #[.int .i64 (tk E i 0).k, .string (tk E i 0).t, .float .f64 (tk E i 0).x, .int .i64 (tk E i 0).a] 68); replace hL := hL.kp (kp_alloc w1 (.cells #[.int .i64 (tk E i 0).k, .string (tk E i 0).t, .float .f64 (tk E i 0).x, .int .i64 (tk E i 0).a] 68)); skip)
    | (go_at_call 46; refine Calls.mono (hL.sign _) ?_; rintro e w2 ⟨rfl, hL2, hK⟩; replace hL := hL2; replace hE := hE.trans hK; replace hR := row_on hR hK hg; replace hT := row_on hT hK hg1; obtain ⟨⟨r0, r1, r2, r3, r4⟩, y0, y1, y2, y3, y4⟩ := row5 hR; obtain ⟨⟨p0, p1, p2, p3⟩, z0, z1, z2, z3⟩ := row4 hT; clear hL2 hK; have hS := hL.live rfl hi0; obtain ⟨a0, l, b0, d, hblk⟩ := hS.blk; have hblt := hS.lt; have c1 := cell_of hblk 1 (.int .i64 i) rfl; have zf := frozen_of hblk 1; clear hblk; have hM := hS.moved hi0; replace hR := row_on hR (kp_set1 w2 E.pb 1 (.int .i64 (i + 1))) hg; replace hT := row_on hT (kp_set1 w2 E.pb 1 (.int .i64 (i + 1))) hg1; replace hE := hE.trans (kp_set1 w2 E.pb 1 (.int .i64 (i + 1))))
    | (go_at_call 73; refine Calls.mono ((hin hi0).at hM.look) ?_; rintro e w4 ⟨nd, k, t, x, ao, n, cp, a, i', c', rfl, hn, hok, hst, hK, hi, hz⟩; have hE3 := hE; have hr3 := blk_lt hR; have hB := heap_alloc_new w4 (.cells #[.int .i64 k, .string t, .float .f64 x, .slice ao n cp, .int .i64 a] 25); have hb1 : w4.heap.size ≠ E.pb := (by have := hst.lt; omega); replace hE := (hE.trans hK).alloc (.cells #[.int .i64 k, .string t, .float .f64 x, .slice ao n cp, .int .i64 a] 25); have hmust := must_any E i' c' ⟨#[41]⟩ _ (hst.alloc (.cells #[.int .i64 k, .string t, .float .f64 x, .slice ao n cp, .int .i64 a] 25)); replace hR := row_past (row_on hR hK hg) (.cells #[.int .i64 k, .string t, .float .f64 x, .slice ao n cp, .int .i64 a] 25))
    | (go_at_call 34; refine Calls.mono hmust ?_; rintro e w5 ⟨rfl, hKm, hmp⟩; replace hE := hE.trans hKm; replace hR := row_on hR hKm hg; replace hB := row_on hB hKm hb1; obtain ⟨⟨r0, r1, r2, r3, r4⟩, y0, y1, y2, y3, y4⟩ := row5 hR; obtain ⟨⟨b0', b1', b2', b3', b4'⟩, _, _, _, _, _⟩ := row5 hB))
  have hk5 := kp_sets5 w5 w.heap.size (.int .i64 k) (.string t) (.float .f64 x) (.slice ao n cp) (.int .i64 a)
  have hV := hn.move (w := w) ((((kp_alloc w4 (.cells #[.int .i64 k, .string t, .float .f64 x, .slice ao n cp, .int .i64 a] 25)).weak.trans hKm).imp (fun _ e => by have := hM.lt; omega)).trans (hk5.imp (fun _ e => by omega))) hE3.size
  rcases hmp with ⟨hof, hst2⟩ | ⟨c2, hc2, hst2⟩
  · obtain ⟨rfl, hi2, _⟩ := isOf_tok (by decide) hof
    obtain ⟨_, h1, h2⟩ := hz rfl
    have hle := tws_le E (Nat.le_succ i')
    exact end5 rfl (sets5_row hR) rfl ⟨nd, _, i' + 1, 0, rfl, hV, hok, St.own h hst2 hk5 (Nat.le_refl _), hE.own hk5 (Nat.le_refl _), by omega, fun _ => ⟨rfl, by omega, by omega⟩⟩
  · exact end5 rfl (sets5_row hR) rfl ⟨nd, _, i', c2, rfl, hV, hok, St.own h hst2 hk5 (Nat.le_refl _), hE.own hk5 (Nat.le_refl _), by omega, fun e => absurd e hc2⟩
set_option maxHeartbeats 4000000 in
set_option maxRecDepth 100000 in
theorem primary_none (E : Env) (i : Nat) (c : Int) (w : World) (h : St E w i c) (hs : isOf 4 (tk E i c) ⟨#[40]⟩ = false) (h1 : (tk E i c).k ≠ 1) (h2 : (tk E i c).k ≠ 2) (h3 : (tk E i c).k ≠ 3) : Calls Try.prog 67 #[pt E.pb 0] w (NPost E i c w) := by
  have hsf := store_f
  have hlt := h.lt
  have hfew := h.ok.few
  have hcap := h.ok.le
  have hilen := h.len
  have hL0 := (h.alloc (.cells row0 25)).look
  have hR : (w.alloc (.cells row0 25)).heap[w.heap.size]? = some (.cells row0 25) := heap_alloc_new w _
  have hg : w.heap.size ≠ E.pb := by omega
  have ht := hL0.t
  have hk1 : ((tk E i c).k == 1) = false := by simpa using h1
  have hk2 : ((tk E i c).k == 2) = false := by simpa using h2
  have hk3 : ((tk E i c).k == 3) = false := by simpa using h3
  clear h1 h2 h3
  go_enter Try.func67, Try.ntmps67
  go_wp2_with (first
    | (go_at_call 24; refine Calls.mono ht ?_; rintro e w1 ⟨rfl, hL, hK⟩; clear ht; replace hR := row_past (row_on hR hK hg) (.cells #[.int .i64 (tk E i c).k, .string (tk E i c).t, .float .f64 (tk E i c).x, .int .i64 (tk E i c).a] 68); have hT := heap_alloc_new w1 (.cells #[.int .i64 (tk E i c).k, .string (tk E i c).t, .float .f64 (tk E i c).x, .int .i64 (tk E i c).a] 68); have hg1 : w1.heap.size ≠ E.pb := (by have := hK.size; simp at this; omega); have hs1 := hK.size; have hE := ((kp_alloc w (.cells row0 25)).weak.trans hK).alloc (.cells #[.int .i64 (tk E i c).k, .string (tk E i c).t, .float .f64 (tk E i c).x, .int .i64 (tk E i c).a] 68); replace hL := hL.kp (kp_alloc w1 (.cells #[.int .i64 (tk E i c).k, .string (tk E i c).t, .float .f64 (tk E i c).x, .int .i64 (tk E i c).a] 68)); skip)
    | (go_at_call 46; refine Calls.mono (hL.sign _) ?_; rintro e w2 ⟨rfl, hL2, hK⟩; replace hL := hL2; replace hE := hE.trans hK; replace hR := row_on hR hK hg; replace hT := row_on hT hK hg1; obtain ⟨⟨r0, r1, r2, r3, r4⟩, y0, y1, y2, y3, y4⟩ := row5 hR; obtain ⟨⟨p0, p1, p2, p3⟩, z0, z1, z2, z3⟩ := row4 hT; clear hL2 hK; skip))
  go_quiet (fail)
  go_wp2_with (go_at_call 37; refine Calls.mono ((hL.kp ((kp_refl _ w2).drewM nq)).wrong) ?_; rintro e w3 ⟨rfl, hD⟩; have hK := hD.ke; replace hD := hD.st; replace hE := (hE.drewM nq).trans hK; replace hR := row_on (w := w2.drewN nq) hR hK hg; obtain ⟨⟨r0, r1, r2, r3, r4⟩, y0, y1, y2, y3, y4⟩ := row5 hR)
  obtain ⟨c', hc', hst'⟩ := hD
  exact end5 rfl (sets5_row hR) rfl (dead_end h hc' hst' hE (Nat.le_refl _))
end Go.Proofs.Ytfkgfibmhhlemaa
namespace Go.Proofs.Ytfkgfibmhhlemaa
open Go.RowKit Go.Maps Go.WideMaps
/-- a call of a Go function as a step of a region that draws -/
theorem step_call {P : Program} {ops : Array Oper} {o : Oper} {a : Act} {w : World} {K : Act → World → Prop} {Q : Exit → Act → World → Prop} {E : Prop}
    (hg : o.guard = none) (f : Nat) (args : Array Value) (hx : (execOp a.eval o).run P w = .ok (.enter f args) w) (S : Ending → World → Prop) (hc : Calls P f args w S) (h : ∀ e w', S e w' → ∃ v, e = .returned v ∧ K (a.put o.dst v) w') :
    if Region.wanted o (yielded ops a.tmps) = true then Oper.wp P o a w K Q else E := by
  have hw : Region.wanted o (yielded ops a.tmps) = true := by simp [Region.wanted, hg]
  rw [if_pos hw]
  unfold Oper.wp
  rw [hx, Oper.upon_enter]
  refine hc.mono fun e w' hs => ?_
  obtain ⟨v, rfl, hk⟩ := h e w' hs
  exact hk
section
variable {E : Env} {w wr w1 w2 w3 : World} {bx m : Nat} {v v' : Value} {ks : List Nd}
abbrev RO (w : World) (bx : Nat) (wr : World) (v : Value) : Nat → Prop := fun b => w.heap.size < b ∧ b < wr.heap.size ∧ b ≠ bx ∧ v.ownBlock ≠ some b
/-- a row of kids under way -/
structure Kids (w : World) (bx : Nat) (wr : World) (v : Value) (m : Nat) (ks : List Nd) : Prop where
  own : ∃ L : List (List Value), L.length = m ∧ wr.ownsRow w.heap.size 25 5 v m L.flatten ∧ ∀ j (h : j < ks.length), ∃ d0 d1 d2 d3 d4, L[j]? = some [d0, d1, d2, d3, d4] ∧ NodeAt (RO w bx wr v) wr ks[j] (.agg #[d0, d1, d2, d3, d4])
  len : ks.length = m
  far : ∀ g, v.ownBlock = some g → w.heap.size < g ∧ g ≠ bx
  ok : okL ks
theorem own_lt (h : Kids w bx wr v m ks) {g : Nat} (e : v.ownBlock = some g) : g < wr.heap.size := by
  obtain ⟨L, _, h2, _⟩ := h.own
  exact (h2.lt g e).2
/-- other blocks written -/
theorem Kids.on (h : Kids w bx wr v m ks) (hb : ∀ k, w.heap.size < k → k < wr.heap.size → k ≠ bx → w1.heap[k]? = wr.heap[k]?) (hs : wr.heap.size ≤ w1.heap.size) : Kids w bx w1 v m ks := by
  obtain ⟨L, h1, h2, h3⟩ := h.own
  refine ⟨⟨L, h1, own_heap h2 (Nat.le_refl _) fun k hk => hb k (h.far k hk).1 (own_lt h hk) (h.far k hk).2, fun j hj => ?_⟩, h.len, h.far, h.ok⟩
  obtain ⟨d0, d1, d2, d3, d4, hL, hn⟩ := h3 j hj
  exact ⟨d0, d1, d2, d3, d4, hL, (hn.kept (w' := w1) fun b hb' => hb b hb'.1 hb'.2.1 hb'.2.2.1).weak fun b hb' => ⟨hb'.1, Nat.lt_of_lt_of_le hb'.2.1 hs, hb'.2.2⟩⟩
theorem Kids.slice (h : Kids w bx wr v m ks) : ∃ ao c, v = .slice ao m c := by
  obtain ⟨L, h1, h2, h3⟩ := h.own
  rcases h2.2 with ⟨e, h0⟩ | ⟨g, cap, cur, e, _⟩
  · exact ⟨none, 0, by rw [e, h0]⟩
  · exact ⟨_, _, e⟩
theorem okL_append : ∀ (ks : List Nd) (nd : Nd), okL ks → nd.ok → okL (ks ++ [nd])
  | [], _, _, h => ⟨h, trivial⟩
  | _ :: r, nd, h, h2 => ⟨h.1, okL_append r nd h.2 h2⟩
theorem wtL_append : ∀ (ks : List Nd) (nd : Nd), wtL (ks ++ [nd]) = wtL ks + nd.wt
  | [], nd => by simp [wtL]
  | a :: r, nd => by simp only [List.cons_append, wtL, wtL_append r nd]; omega
/-- one kid more -/
theorem Kids.push (h : Kids w bx wr v m ks) (hpb : E.pb < w.heap.size) (hk1 : Ke E wr w1) {nd : Nd} {d0 d1 d2 d3 d4 : Value} (hnd : NodeAt (New wr w1) w1 nd (.agg #[d0, d1, d2, d3, d4])) (hbx : bx < wr.heap.size) (hws : w.heap.size < wr.heap.size) (hok : nd.ok) {L : List (List Value)} (hL : L.length = m)
    (hL3 : ∀ j (h : j < ks.length), ∃ d0 d1 d2 d3 d4, L[j]? = some [d0, d1, d2, d3, d4] ∧ NodeAt (RO w bx wr v) wr ks[j] (.agg #[d0, d1, d2, d3, d4]))
    (hown : w2.ownsRow w.heap.size 25 5 v' (m + 1) (L.flatten ++ [d0, d1, d2, d3, d4])) (hg : (w1.alloc (.cells #[d0, d1, d2, d3, d4] 25)).grownBy w2 v.ownBlock) (hfr : ∀ k, v'.ownBlock = some k → v.ownBlock = some k ∨ (w1.alloc (.cells #[d0, d1, d2, d3, d4] 25)).heap.size ≤ k) :
    Kids w bx w2 v' (m + 1) (ks ++ [nd]) := by
  have hsz : (w1.alloc (.cells #[d0, d1, d2, d3, d4] 25)).heap.size = w1.heap.size + 1 := by simp
  rw [hsz] at hfr
  have hsz1 := hk1.size
  have hsz2 : w1.heap.size + 1 ≤ w2.heap.size := by rw [← hsz]; exact hg.size
  have hb : ∀ i, i < w1.heap.size → v.ownBlock ≠ some i → w2.heap[i]? = w1.heap[i]? := fun i hi hne => (hg.block i (by rw [hsz]; omega) fun e => hne e.symm).trans (heap_alloc_old w1 _ hi)
  have hb0 : ∀ i, i < wr.heap.size → i ≠ E.pb → v.ownBlock ≠ some i → w2.heap[i]? = wr.heap[i]? := fun i hi hp hne => (hb i (by omega) hne).trans (hk1.block i hi hp)
  have hvlt : ∀ g, v.ownBlock = some g → g < wr.heap.size := fun g e => own_lt h e
  refine ⟨⟨L ++ [[d0, d1, d2, d3, d4]], by simp [hL], by rw [List.flatten_append]; simpa using hown, fun j hj => ?_⟩, by rw [List.length_append, h.len]; rfl, fun g e => ?_, okL_append _ _ h.ok hok⟩
  · rw [List.length_append] at hj
    simp only [List.length_cons, List.length_nil] at hj
    by_cases hij : j < ks.length
    · obtain ⟨e0, e1, e2, e3, e4, hLj, hn⟩ := hL3 j hij
      refine ⟨e0, e1, e2, e3, e4, by rw [List.getElem?_append_left (by have := h.len; omega)]; exact hLj, ?_⟩
      rw [List.getElem_append_left hij]
      refine (hn.kept (w' := w2) fun b hb' => hb0 b hb'.2.1 (by have := hb'.1; omega) hb'.2.2.2).weak fun b hb' => ⟨hb'.1, by have := hb'.2.1; omega, hb'.2.2.1, fun e => ?_⟩
      rcases hfr b e with e | e
      · exact hb'.2.2.2 e
      · have := hb'.2.1; omega
    · have hij' : j = ks.length := by omega
      subst hij'
      refine ⟨d0, d1, d2, d3, d4, by rw [h.len, ← hL]; simp, ?_⟩
      rw [List.getElem_append_right (Nat.le_refl _)]
      simp only [Nat.sub_self, List.getElem_cons_zero]
      refine (hnd.kept (w' := w2) fun b hb' => hb b hb'.2 fun e => by have := hvlt b e; have := hb'.1; omega).weak fun b hb' => ⟨by have := hb'.1; omega, by have := hb'.2; omega, by have := hb'.1; omega, fun e => ?_⟩
      rcases hfr b e with e | e
      · have := hvlt b e; have := hb'.1; omega
      · have := hb'.2; omega
  · rcases hfr g e with e | e
    · exact h.far g e
    · omega
theorem KidsAt.of {R : Nat → Prop} {u : World} {S : Value} : ∀ {ks : List Nd} {j : Nat}, (∀ i (h : i < ks.length), ∃ c0 c1 c2 c3 c4, ElemAt R u S (j + i) c0 c1 c2 c3 c4 ∧ NodeAt R u ks[i] (.agg #[c0, c1, c2, c3, c4])) → KidsAt R u ks S j
  | [], _, _ => trivial
  | n :: r, j, h => ⟨h 0 (by simp), KidsAt.of fun i hi => by
      have := h (i + 1) (by simpa using hi)
      rw [show j + (i + 1) = j + 1 + i by omega] at this
      exact this⟩
/-- the row as a node's kids -/
theorem Kids.node (h : Kids w bx wr v m ks) (kk : Int) (t : ByteArray) (x : Nat) (a : Int) : NodeAt (New w wr) wr (.mk kk t x ks a) (.agg #[.int .i64 kk, .string t, .float .f64 x, v, .int .i64 a]) := by
  obtain ⟨L, hL, hown, h3⟩ := h.own
  rcases hown.2 with ⟨e, h0⟩ | ⟨g, cap, cur, e, hB, hg, hnc, hcm, _⟩
  · subst e
    obtain rfl : ks = [] := List.eq_nil_of_length_eq_zero (by rw [h.len, h0])
    exact ⟨_, rfl, .inl ⟨rfl, none, 0, rfl, Nat.zero_le _⟩, trivial⟩
  · subst e
    have hfar := h.far g rfl
    have hlt := own_lt h (g := g) rfl
    refine ⟨_, rfl, .inr ⟨g, 0, cap, by rw [h.len], by rw [h.len]; exact hnc, hcm⟩, KidsAt.of fun j hj => ?_⟩
    obtain ⟨d0, d1, d2, d3, d4, hLj, hn⟩ := h3 j hj
    have hl5 : ∀ l ∈ L, l.length = 5 := fun l hl => by
      obtain ⟨q, hq, rfl⟩ := List.getElem_of_mem hl
      obtain ⟨_, _, _, _, _, hLq, _⟩ := h3 q (by rw [h.len, ← hL]; exact hq)
      rw [List.getElem?_eq_getElem hq] at hLq
      rw [Option.some.inj hLq]; rfl
    have hat := flat_at L j _ hl5 hLj
    rw [Nat.zero_add]
    have c0 := hat 0 (by decide)
    have c1 := hat 1 (by decide)
    have c2 := hat 2 (by decide)
    have c3 := hat 3 (by decide)
    have c4 := hat 4 (by decide)
    refine ⟨d0, d1, d2, d3, d4, ⟨g, 0, m, cap, rfl, ⟨Nat.le_of_lt hfar.1, hlt⟩, ?_, ?_, ?_, ?_, ?_⟩, hn.weak fun b hb => ⟨Nat.le_of_lt hb.1, hb.2.1⟩⟩
    · rw [Nat.zero_add]; exact own_cell hown c0
    · rw [Nat.zero_add]; exact own_cell hown c1
    · rw [Nat.zero_add]; exact own_cell hown c2
    · rw [Nat.zero_add]; exact own_cell hown c3
    · rw [Nat.zero_add]; exact own_cell hown c4
end
end Go.Proofs.Ytfkgfibmhhlemaa
namespace Go.Proofs.Ytfkgfibmhhlemaa
open Go.RowKit Go.Maps Go.WideMaps
/-- behind the next token stands an opening parenthesis -/
def opens (E : Env) (i : Nat) : Prop := ∃ h : i + 1 < E.ts.length, E.ts[i + 1].k = 4 ∧ E.ts[i + 1].t.toList = [40]
set_option maxHeartbeats 8000000 in
set_option maxRecDepth 100000 in
theorem primary_name (E : Env) (i : Nat) (c : Int) (w : World) (h : St E w i c) (hk : (tk E i c).k = 1) (hno : ¬ opens E i) : Calls Try.prog 67 #[pt E.pb 0] w (NPost E i c w) := by
  obtain ⟨rfl, hi0, hw0⟩ := tk_next (E := E) (i := i) (c := c) (by rw [hk]; decide)
  have hsf := store_f
  have hlt := h.lt
  have hfew := h.ok.few
  have hcap := h.ok.le
  have hilen := h.len
  have hL0 := (h.alloc (.cells row0 25)).look
  have hR : (w.alloc (.cells row0 25)).heap[w.heap.size]? = some (.cells row0 25) := heap_alloc_new w _
  have hg : w.heap.size ≠ E.pb := by omega
  have ht := hL0.t
  have hk1 : ((tk E i 0).k == 1) = true := by rw [hk]; rfl
  have hk2 : ((tk E i 0).k == 2) = false := by rw [hk]; rfl
  have hk3 : ((tk E i 0).k == 3) = false := by rw [hk]; rfl
  have hs : isOf 4 (tk E i 0) ⟨#[40]⟩ = false := by unfold isOf; rw [hk]; rfl
  clear hk
  go_enter Try.func67, Try.ntmps67
  go_wp2_with (first
    | (go_at_call 24; refine Calls.mono ht ?_; rintro e w1 ⟨rfl, hL, hK⟩; clear ht; replace hR := row_past (row_on hR hK hg) (.cells #[.int .i64 (tk E i 0).k, .string (tk E i 0).t, .float .f64 (tk E i 0).x, .int .i64 (tk E i 0).a] 68); have hT := heap_alloc_new w1 (.cells #[.int .i64 (tk E i 0).k, .string (tk E i 0).t, .float .f64 (tk E i 0).x, .int .i64 (tk E i 0).a] 68); have hg1 : w1.heap.size ≠ E.pb := (by have := hK.size; simp at this; omega); have hs1 := hK.size; have hE := ((kp_alloc w (.cells row0 25)).weak.trans hK).alloc (.cells #[.int .i64 (tk E i 0).k, .string (tk E i 0).t, .float .f64 (tk E i 0).x, .int .i64 (tk E i 0).a] 68); replace hL := hL.kp (kp_alloc w1 (.cells #[.int .i64 (tk E i 0).k, .string (tk E i 0).t, .float .f64 (tk E i 0).x, .int .i64 (tk E i 0).a] 68)); skip)
    | (go_at_call 46; refine Calls.mono (hL.sign _) ?_; rintro e w2 ⟨rfl, hL2, hK⟩; replace hL := hL2; replace hE := hE.trans hK; replace hR := row_on hR hK hg; replace hT := row_on hT hK hg1; obtain ⟨⟨r0, r1, r2, r3, r4⟩, y0, y1, y2, y3, y4⟩ := row5 hR; obtain ⟨⟨p0, p1, p2, p3⟩, z0, z1, z2, z3⟩ := row4 hT; clear hL2 hK; have hS := hL.live rfl hi0; obtain ⟨a0, l, b0, d, hblk⟩ := hS.blk; have hblt := hS.lt; have c1 := cell_of hblk 1 (.int .i64 i) rfl; have zf := frozen_of hblk 1; clear hblk; have hM := hS.moved hi0))
  have c0 : w2.cell? ⟨E.pb, 0, none⟩ = some (.slice E.ao E.ts.length E.cap) := (by obtain ⟨_, _, _, _, hb⟩ := hS.blk; exact cell_of hb 0 _ rfl)
  have hcase : (decide ((i : Int) + 1 < (E.ts.length : Int)) = false) ∨ ∃ hn : i + 1 < E.ts.length, (E.ts[i + 1].k == 4) = false ∨ ((E.ts[i + 1].k == 4) = true ∧ (E.ts[i + 1].t.toList == [40]) = false) := by
    by_cases hn : i + 1 < E.ts.length
    · refine .inr ⟨hn, ?_⟩
      by_cases h4 : E.ts[i + 1].k = 4
      · refine .inr ⟨by simpa using h4, ?_⟩
        by_cases h5 : E.ts[i + 1].t.toList = [40]
        · exact absurd ⟨hn, h4, h5⟩ hno
        · simpa using h5
      · exact .inl (by simpa using h4)
    · refine .inl (by simp; omega)
  clear hno
  rcases hcase with hd | ⟨hn, hcase⟩
  case' inr =>
    have hd : decide ((i : Int) + 1 < (E.ts.length : Int)) = true := by simp; omega
    obtain ⟨tb, o, hao, hnb, q0, q1, _, _⟩ := hS.toks (i + 1) hn
    have htl := World.block_lt_of_cell? w2 _ q0
    rw [hao] at c0
    generalize E.ts[i + 1].k = k4 at *
    generalize E.ts[i + 1].t = t4 at *
    rcases hcase with h4 | ⟨h4, h5⟩
  all_goals
    go_quiet (fail)
    have hK0 : Kp (fun _ => False) w2 (w2.drewN nq) := (kp_refl _ w2).drewM nq
    replace hL := hL.kp hK0
    replace hE := hE.drewM nq
    replace hR : (w2.drewN nq).heap[w.heap.size]? = some (.cells row0 25) := hR
    replace hT : (w2.drewN nq).heap[w1.heap.size]? = some (.cells #[.int .i64 (tk E i 0).k, .string (tk E i 0).t, .float .f64 (tk E i 0).x, .int .i64 (tk E i 0).a] 68) := hT
    replace hS := hS.kp hK0
    replace c1 : (w2.drewN nq).cell? ⟨E.pb, 1, none⟩ = some (.int .i64 i) := c1
    have zf1 : (w2.drewN nq).frozen? ⟨E.pb, 1, none⟩ = false := zf 
    clear zf
    generalize w2.drewN nq = w3 at *
    obtain ⟨⟨r0, r1, r2, r3, r4⟩, y0, y1, y2, y3, y4⟩ := row5 hR
    obtain ⟨⟨p0, p1, p2, p3⟩, z0, z1, z2, z3⟩ := row4 hT
    go_wp2_with (first
      | (go_at_call 45; refine Calls.mono (pkept_any _ _) ?_; rintro e w4 ⟨⟨β, rfl⟩, hK4⟩; replace hL := hL.kp hK4; replace hE := hE.trans hK4.weak; replace hR := row_on hR hK4 (fun e => e); replace hT := row_on hT hK4 (fun e => e); replace hS := hS.kp hK4; have hM := hS.moved hi0; obtain ⟨a0', l', b0', d', hblk⟩ := hS.blk; have c1' := cell_of hblk 1 (.int .i64 i) rfl; have zf' := frozen_of hblk 1; clear hblk hK4; obtain ⟨⟨r0, r1, r2, r3, r4⟩, y0, y1, y2, y3, y4⟩ := row5 hR; obtain ⟨⟨p0, p1, p2, p3⟩, z0, z1, z2, z3⟩ := row4 hT; cases β)
      | (go_at_call 37; refine Calls.mono hL.wrong ?_; rintro e w5 ⟨rfl, hD⟩; have hKD := hD.ke; replace hD := hD.st; replace hE := hE.trans hKD; replace hR := row_on hR hKD hg; obtain ⟨⟨r0, r1, r2, r3, r4⟩, y0, y1, y2, y3, y4⟩ := row5 hR))
    all_goals first
      | (obtain ⟨c', hc', hst'⟩ := hD; exact end5 rfl (sets5_row hR) rfl (dead_end h hc' hst' hE (Nat.le_refl _)))
      | exact end5 rfl (sets5_row (row_on hR (kp_set1 _ E.pb 1 _) hg)) rfl (leaf_end h rfl hM (hE.trans (kp_set1 _ _ _ _)) 14 (by decide) (tk E i 0).t 0 _ (by omega))
end Go.Proofs.Ytfkgfibmhhlemaa
namespace Go.Proofs.Ytfkgfibmhhlemaa
open Go.RowKit Go.Maps Go.WideMaps
theorem St.moved2 {E : Env} {w : World} {i : Nat} {c : Int} (h : St E w i c) (hi : i + 1 < E.ts.length) : St E (w.setCell ⟨E.pb, 1, none⟩ (.int .i64 (i + 2))) (i + 2) c := by
  obtain ⟨a0, l, b, d, hb⟩ := h.blk
  exact h.made hi (fun k _ hn => set_far hn _ _) ⟨a0, l, b, d, set_blk hb 1 _⟩
/-- the head of a call's loop: the kids at bx -/
structure AInv (E : Env) (i : Nat) (w : World) (bx : Nat) (i' : Nat) (c' : Int) (m : Nat) (v : Value) (ks : List Nd) (wr : World) : Prop where
  row : wr.heap[bx]? = some (.cells #[.int .i64 19, .string (tk E i 0).t, .float .f64 0, v, .int .i64 (tk E i 0).a] 25)
  kids : Kids w bx wr v m ks
  st : St E wr i' c'
  ke : Ke E w wr
  r : wr.heap[w.heap.size]? = some (.cells row0 25)
  le : i + 2 ≤ i'
  z : c' = 0 → m + i ≤ i' ∧ wtL ks + tws E (i + 2) ≤ tws E i'
  far : E.pb < w.heap.size ∧ w.heap.size < bx
section
variable {E : Env} {i : Nat} {w : World} {bx : Nat} {i' : Nat} {c' : Int} {m : Nat} {v : Value} {ks : List Nd} {wr w' : World}
theorem AInv.on (h : AInv E i w bx i' c' m v ks wr) (hk : Ke E wr w') {i2 : Nat} {c2 : Int} (hs : St E w' i2 c2) (hi : i' ≤ i2) (hc : c2 = 0 → c' = 0) : AInv E i w bx i2 c2 m v ks w' := by
  have hf := h.far
  have hle := tws_le E hi
  refine ⟨row_on h.row hk (by omega), h.kids.on (fun k h1 h2 h3 => hk.block k h2 (by omega)) hk.size, hs, h.ke.trans hk, row_on h.r hk (by omega), by have := h.le; omega, fun e => ?_, hf⟩
  obtain ⟨h1, h2⟩ := h.z (hc e)
  exact ⟨by omega, by omega⟩
theorem St.low {E : Env} {w w1 w2 : World} {i j : Nat} {c c1 : Int} (h : St E w i c) (h1 : St E w1 j c1) (hk : ∀ k, k < w.heap.size → w2.heap[k]? = w1.heap[k]?) : St E w2 j c1 := by
  obtain ⟨a, l, b, d, hb⟩ := h1.blk
  refine ⟨h1.ok, ⟨a, l, b, d, (hk _ h.lt).trans hb⟩, fun q hq => ?_, h1.len⟩
  obtain ⟨tb, o, e, hn, q0, q1, q2, q3⟩ := h1.toks q hq
  obtain ⟨tb', o', e', _, q0', _⟩ := h.toks q hq
  rw [e] at e'
  cases e'
  have ht := hk tb (World.block_lt_of_cell? w _ q0')
  exact ⟨tb, o, e, hn, (World.cell?_of_block ht).trans q0, (World.cell?_of_block ht).trans q1, (World.cell?_of_block ht).trans q2, (World.cell?_of_block ht).trans q3⟩
theorem Kp.far {S : Nat → Prop} {w w1 w2 : World} (h : Kp S w w1) (h2 : Kp (fun k => w.heap.size < k) w1 w2) : Kp S w w2 :=
  ⟨h2.os.trans h.os, h2.tape.trans h.tape, h2.output.trans h.output, Nat.le_trans h.size h2.size, fun k hk hn => (h2.block k (Nat.lt_of_lt_of_le hk h.size) (by omega)).trans (h.block k hk hn)⟩
/-- an append and its store, seen from behind the call -/
theorem far_push {w5 w7 w8 : World} {o : Obj} (hk : Kids w bx w5 v m ks) (hbx : w.heap.size < bx) (hg : (w7.alloc o).grownBy w8 v.ownBlock) (u : Value) : Kp (fun k => w.heap.size < k) w7 (w8.setCell ⟨bx, 3, none⟩ u) := by
  refine ⟨hg.os, hg.tape, hg.output, ?_, fun k hk1 hn => ?_⟩
  · have := hg.size
    rw [World.size_alloc] at this
    rw [sc_size]; omega
  · refine (set_far (by omega) _ _).trans ((hg.block k (by rw [World.size_alloc]; omega) fun e => ?_).trans (heap_alloc_old w7 _ hk1))
    exact hn (hk.far k e.symm).1
theorem AInv.push {w5 w7 w8 : World} {o : Obj} {i2 : Nat} {c3 : Int} {nd : Nd} {v' : Value} (h : AInv E i w bx i' 0 m v ks w5) (h0 : St E w i 0) (hK : Ke E w5 w7) (hst : St E w7 i2 c3) (hi : i' ≤ i2) (hz : c3 = 0 → i' < i2 ∧ nd.wt + tws E i' ≤ tws E i2)
    (hk8 : Kids w bx w8 v' (m + 1) (ks ++ [nd])) (hg : (w7.alloc o).grownBy w8 v.ownBlock) (hrow : w8.heap[bx]? = some (.cells #[.int .i64 19, .string (tk E i 0).t, .float .f64 0, v, .int .i64 (tk E i 0).a] 25)) : AInv E i w bx i2 c3 (m + 1) v' (ks ++ [nd]) (w8.setCell ⟨bx, 3, none⟩ v') := by
  have hf := h.far
  have hfar := far_push h.kids hf.2 hg v'
  have hE := (h.ke.trans hK).far hfar
  refine ⟨set_blk hrow 3 _, hk8.on (fun k _ _ hn => set_far hn _ _) (by rw [sc_size]; exact Nat.le_refl _), h0.low hst fun k hk => hfar.block k (Nat.lt_of_lt_of_le hk (h.ke.trans hK).size) (by omega), hE, row_on (row_on h.r hK (by omega)) hfar (by omega), by have := h.le; omega, fun e => ?_, hf⟩
  obtain ⟨h1, h2⟩ := h.z rfl
  obtain ⟨h3, h4⟩ := hz e
  rw [wtL_append]
  exact ⟨by omega, by omega⟩
/-- the end of a call: its closing parenthesis -/
theorem AInv.done (h : AInv E i w bx i' c' m v ks wr) (h0 : St E w i 0) (hw0 : tws E (i + 1) = tws E i + (1 + (tk E i 0).t.size)) (hp : MustPost E i' c' ⟨#[41]⟩ wr w') :
    NPost E i 0 w (.returned (.agg #[.int .i64 19, .string (tk E i 0).t, .float .f64 0, v, .int .i64 (tk E i 0).a])) (sets5 w' w.heap.size (.int .i64 19) (.string (tk E i 0).t) (.float .f64 0) v (.int .i64 (tk E i 0).a)) := by
  obtain ⟨hKm, hmp⟩ := hp
  have hf := h.far
  have hk5 := kp_sets5 w' w.heap.size (.int .i64 19) (.string (tk E i 0).t) (.float .f64 0) v (.int .i64 (tk E i 0).a)
  have hkids := h.kids.on (w1 := sets5 w' w.heap.size (.int .i64 19) (.string (tk E i 0).t) (.float .f64 0) v (.int .i64 (tk E i 0).a)) (fun k h1 h2 h3 => (hk5.block k (Nat.lt_of_lt_of_le h2 hKm.size) (by omega)).trans (hKm.block k h2 (by omega))) (Nat.le_trans hKm.size hk5.size)
  have hn := hkids.node 19 (tk E i 0).t 0 (tk E i 0).a
  have hle := tws_le E (show i + 1 ≤ i + 2 by omega)
  have h2 := h.le
  rcases hmp with ⟨hof, hst2⟩ | ⟨c2, hc2, hst2⟩
  · obtain ⟨rfl, hi2, _⟩ := isOf_tok (by decide) hof
    obtain ⟨_, h3⟩ := h.z rfl
    have hle2 := tws_le E (Nat.le_succ i')
    exact ⟨_, _, i' + 1, 0, rfl, hn, ⟨by decide, h.kids.ok⟩, St.own h0 hst2 hk5 (Nat.le_refl _), (h.ke.trans hKm).own hk5 (Nat.le_refl _), by omega, fun _ => ⟨rfl, by omega, by simp only [Nd.wt]; omega⟩⟩
  · exact ⟨_, _, i', c2, rfl, hn, ⟨by decide, h.kids.ok⟩, St.own h0 hst2 hk5 (Nat.le_refl _), (h.ke.trans hKm).own hk5 (Nat.le_refl _), by omega, fun e => absurd e hc2⟩
end
set_option maxHeartbeats 8000000 in
set_option maxRecDepth 100000 in
theorem primary_ask (E : Env) (i : Nat) (c : Int) (w : World) (h : St E w i c) (hk : (tk E i c).k = 1) (hop : opens E i) (hin : ∀ j, i < j → NOk 73 E j) : Calls Try.prog 67 #[pt E.pb 0] w (NPost E i c w) := by
  obtain ⟨rfl, hi0, hw0⟩ := tk_next (E := E) (i := i) (c := c) (by rw [hk]; decide)
  have hsf := store_f
  have hlt := h.lt
  have hfew := h.ok.few
  have hcap := h.ok.le
  have hilen := h.len
  have hL0 := (h.alloc (.cells row0 25)).look
  have hR : (w.alloc (.cells row0 25)).heap[w.heap.size]? = some (.cells row0 25) := heap_alloc_new w _
  have hg : w.heap.size ≠ E.pb := by omega
  have ht := hL0.t
  have hk1 : ((tk E i 0).k == 1) = true := by rw [hk]; rfl
  have hk2 : ((tk E i 0).k == 2) = false := by rw [hk]; rfl
  have hk3 : ((tk E i 0).k == 3) = false := by rw [hk]; rfl
  have hs : isOf 4 (tk E i 0) ⟨#[40]⟩ = false := by unfold isOf; rw [hk]; rfl
  clear hk
  obtain ⟨hn, h4, h5⟩ := hop
  obtain ⟨i0, hi0', hz0, hz1, hz2⟩ := info_parts info25
  go_enter Try.func67, Try.ntmps67
  go_wp2_with (first
    | (go_at_call 24; refine Calls.mono ht ?_; rintro e w1 ⟨rfl, hL, hK⟩; clear ht; replace hR := row_past (row_on hR hK hg) (.cells #[.int .i64 (tk E i 0).k, .string (tk E i 0).t, .float .f64 (tk E i 0).x, .int .i64 (tk E i 0).a] 68); have hT := heap_alloc_new w1 (.cells #[.int .i64 (tk E i 0).k, .string (tk E i 0).t, .float .f64 (tk E i 0).x, .int .i64 (tk E i 0).a] 68); have hg1 : w1.heap.size ≠ E.pb := (by have := hK.size; simp at this; omega); have hs1 := hK.size; have hE := ((kp_alloc w (.cells row0 25)).weak.trans hK).alloc (.cells #[.int .i64 (tk E i 0).k, .string (tk E i 0).t, .float .f64 (tk E i 0).x, .int .i64 (tk E i 0).a] 68); replace hL := hL.kp (kp_alloc w1 (.cells #[.int .i64 (tk E i 0).k, .string (tk E i 0).t, .float .f64 (tk E i 0).x, .int .i64 (tk E i 0).a] 68)); skip)
    | (go_at_call 46; refine Calls.mono (hL.sign _) ?_; rintro e w2 ⟨rfl, hL2, hK⟩; replace hL := hL2; replace hE := hE.trans hK; replace hR := row_on hR hK hg; replace hT := row_on hT hK hg1; obtain ⟨⟨r0, r1, r2, r3, r4⟩, y0, y1, y2, y3, y4⟩ := row5 hR; obtain ⟨⟨p0, p1, p2, p3⟩, z0, z1, z2, z3⟩ := row4 hT; clear hL2 hK; have hS := hL.live rfl hi0; obtain ⟨a0, l, b0, d, hblk⟩ := hS.blk; have hblt := hS.lt; have c1 := cell_of hblk 1 (.int .i64 i) rfl; have zf := frozen_of hblk 1; clear hblk; have hM := hS.moved2 hn))
  have c0 : w2.cell? ⟨E.pb, 0, none⟩ = some (.slice E.ao E.ts.length E.cap) := (by obtain ⟨_, _, _, _, hb⟩ := hS.blk; exact cell_of hb 0 _ rfl)
  have hd : decide ((i : Int) + 1 < (E.ts.length : Int)) = true := by simp; omega
  obtain ⟨tb, o, hao, hnb, q0, q1, _, _⟩ := hS.toks (i + 1) hn
  have htl := World.block_lt_of_cell? w2 _ q0
  rw [hao] at c0
  have h4b : (E.ts[i + 1].k == 4) = true := by simpa using h4
  have h5b : (E.ts[i + 1].t.toList == [40]) = true := by simpa using h5
  clear h4 h5
  generalize E.ts[i + 1].k = k4 at *
  generalize E.ts[i + 1].t = t4 at *
  go_quiet (fail)
  have hK0 : Kp (fun _ => False) w2 (w2.drewN nq) := (kp_refl _ w2).drewM nq
  replace hL := hL.kp hK0
  replace hE := hE.drewM nq
  replace hR : (w2.drewN nq).heap[w.heap.size]? = some (.cells row0 25) := hR
  replace hT : (w2.drewN nq).heap[w1.heap.size]? = some (.cells #[.int .i64 (tk E i 0).k, .string (tk E i 0).t, .float .f64 (tk E i 0).x, .int .i64 (tk E i 0).a] 68) := hT
  replace hS := hS.kp hK0
  replace hM := hS.moved2 hn
  replace c1 : (w2.drewN nq).cell? ⟨E.pb, 1, none⟩ = some (.int .i64 i) := c1
  have zf1 : (w2.drewN nq).frozen? ⟨E.pb, 1, none⟩ = false := zf
  clear zf
  generalize w2.drewN nq = w3 at *
  obtain ⟨⟨r0, r1, r2, r3, r4⟩, y0, y1, y2, y3, y4⟩ := row5 hR
  obtain ⟨⟨p0, p1, p2, p3⟩, z0, z1, z2, z3⟩ := row4 hT
  have hKM := kp_set1 w3 E.pb 1 (.int .i64 (i + 2))
  have hltM := hM.lt
  have hrl := blk_lt hR
  have htl3 := blk_lt hT
  go_wp2_with fail
  have hA0 : AInv E i w w3.heap.size (i + 2) 0 0 (.slice none 0 0) [] ((w3.setCell ⟨E.pb, 1, none⟩ (.int .i64 (i + 2))).alloc (.cells #[.int .i64 19, .string (tk E i 0).t, .float .f64 0, .slice none 0 0, .int .i64 (tk E i 0).a] 25)) := by
    refine ⟨by have := heap_alloc_new (w3.setCell ⟨E.pb, 1, none⟩ (.int .i64 (i + 2))) (.cells #[.int .i64 19, .string (tk E i 0).t, .float .f64 0, .slice none 0 0, .int .i64 (tk E i 0).a] 25); rwa [sc_size] at this, ⟨⟨[], rfl, World.ownsRow_nil _ _ _ _, fun j hj => absurd hj (Nat.not_lt_zero _)⟩, rfl, fun g e => by simp [Value.ownBlock] at e, trivial⟩, hM.alloc _, (hE.trans hKM).alloc _, row_past (row_on hR hKM hg) _, Nat.le_refl _, fun _ => ⟨by omega, by simp [wtL]⟩, hlt, hrl⟩
  clear hR hT hM hL hS hE
  go_loopw [116] (fun _ wr => ∃ i' c' m v ks, AInv E i w w3.heap.size i' c' m v ks wr) (fun _ wr => left E wr)
  case atStart => exact ⟨_, _, _, _, _, hA0⟩
  case round =>
    clear hA0
    obtain ⟨i', c', m, v, ks, hA⟩ := hrel
    have hleft := hA.st.left
    have hfar := hA.far
    go_wp2_with (go_at_call 46; refine Calls.mono (hA.st.look.sign _) ?_; rintro e w5 ⟨rfl, hL, hK⟩; obtain ⟨c2, hsm, hst2⟩ := hL.st; have hB := hA.on hK hst2 (Nat.le_refl _) hsm.zero; obtain ⟨a0, l, b0, d, hblk⟩ := hst2.blk; have c4 := cell_of hblk 4 (.int .i64 c2) rfl; clear hblk; generalize hβ : isOf 4 _ _ = β; cases β; all_goals try (by_cases hc2 : c2 = 0; all_goals try (have hc2b : (c2 == 0) = false := (by simpa using hc2))))
    · obtain ⟨ao, capv, hv⟩ := hB.kids.slice
      subst hv
      subst hc2
      obtain ⟨⟨b0', b1', b2', b3', b4'⟩, s0, s1, s2, s3, s4⟩ := row5 hB.row
      obtain ⟨L, hL1, hL2, hL3⟩ := hB.kids.own
      have hcall := (hin i' (by have := hB.le; omega)).at (hB.st.drew.look)
      have hbl := blk_lt hB.row
      have hmz : m + i ≤ i' := (hB.z rfl).1
      have hil := hB.st.len
      have hfw : w.heap.size ≤ w5.heap.size := hB.ke.size
      have hwr5 := blk_lt hB.r
      go_region_law (first
        | (refine step_call rfl 73 #[pt E.pb 0] (by go_simp) _ hcall ?_; rintro e w7 ⟨nd, k, t, x, ao2, n2, cp2, a, i2, c3, rfl, hnd, hok, hst3, hK3, hi3, hz3⟩; refine ⟨_, rfl, ?_⟩; have hB7 := row_on (w := w5.drew) hB.row hK3 (by omega); obtain ⟨⟨g0, g1, g2, g3, g4⟩, y0, y1, y2, y3, y4⟩ := row5 hB7; have hs7 := hK3.size; have hown7 := own_heap hL2 (Nat.le_refl _) (fun j hj => hK3.block j (own_lt hB.kids hj) (by have := (hB.kids.far j hj).1; omega)); have hb7 := blk_lt hB7; have hkids7 := hB.kids; clear hcall)
        | (refine step_own rfl (.tmp 126) (.tmp 129) 23 rfl w.heap.size 25 i0 _ 5 64 Try.underlying23 hi0' hz0 hz1 hz2 rfl (by decide) (.slice ao m capv) m L.flatten (by simp [Act.eval]) (by exact hown7.alloc _) ⟨w7.heap.size, 0, none⟩ 1 [.int .i64 k, .string t, .float .f64 x, .slice ao2 n2 cp2, .int .i64 a] (by simp [Act.eval]) rfl (by exact news5 _ _ rfl _ _ _ _ _) (by intro u hu; simp at hu; rcases hu with rfl | rfl | rfl | rfl | rfl <;> rfl) (by unfold maxLen; omega) (by omega) (by simp at hs7 ⊢; omega) ?_; intro v' w8 hown' hgrow hfr; have hkids8 := hB.kids.push hfar.1 (w1 := w7) ⟨hK3.os, hK3.tape, hK3.output, hK3.size, hK3.block⟩ hnd hbl hwr5 hok hL1 hL3 hown' hgrow hfr; have hrow8 := hgrow.block w3.heap.size (by simp; omega) (fun e => (hB.kids.far w3.heap.size e.symm).2 rfl); obtain ⟨ao', n', c8, rfl⟩ := own_slice hown'; have hrow9 := (hrow8.trans (heap_alloc_old w7 _ hb7)).trans hB7; obtain ⟨⟨f0, f1, f2, f3, f4⟩, e0, e1, e2, e3, e4⟩ := row5 hrow9))
      all_goals
        have hC := hB.push h ⟨hK3.os, hK3.tape, hK3.output, hK3.size, hK3.block⟩ hst3 hi3 (fun e => (hz3 e).2) hkids8 hgrow hrow9
        clear hB hkids8 hown' hrow8 hgrow hkids7 hown7 hL2 hL3
        go_wp2_with (first
          | (go_at_call 46; refine Calls.mono (hC.st.look.sign _) ?_; rintro e w10 ⟨rfl, hL, hK10⟩; obtain ⟨c4, hsm, hst4⟩ := hL.st; have hB := hC.on hK10 hst4 (Nat.le_refl _) hsm.zero; clear hC; generalize hγ : isOf 4 _ _ = γ; cases γ; all_goals try (obtain ⟨hc3, hi2l, _⟩ := isOf_tok (by decide) hγ; obtain rfl : c4 = 0 := hsm.live hc3 hi2l; have hst5 := hB.st.moved hi2l; have hD := hB.on (kp_set1 w10 E.pb 1 (.int .i64 (i2 + 1))) hst5 (Nat.le_succ _) (fun e => e); obtain ⟨a0, l0, b0, d, hblk⟩ := hB.st.blk; have c1 := cell_of hblk 1 (.int .i64 i2) rfl; have zf := frozen_of hblk 1; clear hblk hB))
          | (go_at_call 46; refine Calls.mono (hD.st.look.sign _) ?_; rintro e w11 ⟨rfl, hL, hK11⟩; obtain ⟨c5, hsm5, hst5⟩ := hL.st; have hF := hD.on hK11 hst5 (Nat.le_refl _) hsm5.zero; clear hD; generalize isOf 4 _ _ = γ; cases γ)
          | (go_at_call 37; refine Calls.mono (hF.st.look.wrong) ?_; rintro e w12 ⟨rfl, hDd⟩; obtain ⟨c6, hc6, hst6⟩ := hDd.st; replace hF := hF.on hDd.ke hst6 (Nat.le_refl _) (fun e => absurd e hc6)))
        all_goals first
          | exact ⟨⟨_, _, _, _, _, hF⟩, by rw [hF.st.left, hleft]; omega⟩
          | (obtain ⟨aow, capw, hv⟩ := hB.kids.slice; (try subst hv); go_wp2_with (go_at_call 34; refine Calls.mono (must_any E _ _ ⟨#[41]⟩ _ hB.st) ?_; rintro e w9 ⟨rfl, hmp⟩; have hR9 := row_on hB.r hmp.1 (by omega); have hB9 := row_on hB.row hmp.1 (by omega); obtain ⟨⟨r0, r1, r2, r3, r4⟩, y0, y1, y2, y3, y4⟩ := row5 hR9; obtain ⟨⟨b0', b1', b2', b3', b4'⟩, _, _, _, _, _⟩ := row5 hB9); exact end5 rfl (sets5_row hR9) rfl (hB.done h hw0 hmp))
    all_goals (obtain ⟨aow, capw, hv⟩ := hB.kids.slice; (try subst hv); go_wp2_with (go_at_call 34; refine Calls.mono (must_any E _ _ ⟨#[41]⟩ _ hB.st) ?_; rintro e w9 ⟨rfl, hmp⟩; have hR9 := row_on hB.r hmp.1 (by omega); have hB9 := row_on hB.row hmp.1 (by omega); obtain ⟨⟨r0, r1, r2, r3, r4⟩, y0, y1, y2, y3, y4⟩ := row5 hR9; obtain ⟨⟨b0', b1', b2', b3', b4'⟩, _, _, _, _, _⟩ := row5 hB9); exact end5 rfl (sets5_row hR9) rfl (hB.done h hw0 hmp))
end Go.Proofs.Ytfkgfibmhhlemaa
namespace Go.Proofs.Ytfkgfibmhhlemaa
open Go.RowKit Go.Maps Go.WideMaps
theorem primary_any (E : Env) (i : Nat) (hin : ∀ j, i < j → NOk 73 E j) : NOk 67 E i := by
  intro c w h
  by_cases h2 : (tk E i c).k = 2
  · exact primary_number E i c w h h2
  by_cases h3 : (tk E i c).k = 3
  · exact primary_text E i c w h h3
  by_cases h1 : (tk E i c).k = 1
  · by_cases ho : opens E i
    · exact primary_ask E i c w h h1 ho hin
    · exact primary_name E i c w h h1 ho
  cases hs : isOf 4 (tk E i c) ⟨#[40]⟩
  · exact primary_none E i c w h hs h1 h2 h3
  · exact primary_paren E i c w h (fun _ => hin _ (Nat.lt_succ_self i)) hs
structure Exprs (E : Env) (i : Nat) : Prop where
  expr : NOk 35 E i
  inner : NOk 73 E i
  unary : NOk 58 E i
  b1 : BOk 1 E i
  b2 : BOk 2 E i
  b3 : BOk 3 E i
  b4 : BOk 4 E i
theorem exprs_all (E : Env) : ∀ (n i : Nat), E.ts.length + 1 - i ≤ n → Exprs E i
  | 0, i, hi => by
    have hv : ∀ c w, ¬ St E w i c := fun c w h => by have := h.len; omega
    exact ⟨fun c w h => absurd h (hv c w), fun c w h => absurd h (hv c w), fun c w h => absurd h (hv c w), fun c w h => absurd h (hv c w), fun c w h => absurd h (hv c w), fun c w h => absurd h (hv c w), fun c w h => absurd h (hv c w)⟩
  | n + 1, i, hi => by
    have ih : ∀ j, i < j → Exprs E j := fun j hj => exprs_all E n j (by omega)
    have hp := primary_any E i fun j hj => (ih j hj).inner
    have hu := unary_any E i hp fun _ => (ih _ (Nat.lt_succ_self i)).unary
    have b4 := binary_4 E i hu
    have b3 := binary_3 E i b4 fun j hj => (ih j hj).b4
    have b2 := binary_2 E i b3 fun j hj => (ih j hj).b3
    have b1 := binary_1 E i b2 fun j hj => (ih j hj).b2
    have b0 := binary_0 E i b1 fun j hj => (ih j hj).b1
    have he := expr_ok E i b0
    exact ⟨he, inner_any E i he, hu, b1, b2, b3, b4⟩
/-- an expression -/
theorem pexpr_any (E : Env) (i : Nat) : NOk 35 E i := (exprs_all E _ i (Nat.le_refl _)).expr
end Go.Proofs.Ytfkgfibmhhlemaa
namespace Go.Proofs.Ytfkgfibmhhlemaa
open Go.RowKit Go.Maps Go.WideMaps
/-- the head of a loop over statements: the kids at bx; G: what a loop without a fault knows -/
structure LInv (E : Env) (w : World) (bx : Nat) (aa : Int) (lo : Nat) (G : Prop) (i' : Nat) (c' : Int) (m : Nat) (v : Value) (ks : List Nd) (wr : World) : Prop where
  row : wr.heap[bx]? = some (.cells #[.int .i64 8, .string ⟨#[]⟩, .float .f64 0, v, .int .i64 aa] 25)
  kids : Kids w bx wr v m ks
  st : St E wr i' c'
  ke : Ke E w wr
  r : wr.heap[w.heap.size]? = some (.cells row0 25)
  le : lo ≤ i'
  z : c' = 0 → G ∧ m + lo ≤ i' ∧ wtL ks + tws E lo ≤ tws E i'
  far : E.pb < w.heap.size ∧ w.heap.size < bx
section
variable {E : Env} {i : Nat} {w : World} {bx : Nat} {aa : Int} {lo : Nat} {G : Prop} {i' : Nat} {c c' : Int} {m : Nat} {v : Value} {ks : List Nd} {wr w' : World}
theorem LInv.on (h : LInv E w bx aa lo G i' c' m v ks wr) (hk : Ke E wr w') {i2 : Nat} {c2 : Int} (hs : St E w' i2 c2) (hi : i' ≤ i2) (hc : c2 = 0 → c' = 0) : LInv E w bx aa lo G i2 c2 m v ks w' := by
  have hf := h.far
  have hle := tws_le E hi
  refine ⟨row_on h.row hk (by omega), h.kids.on (fun k h1 h2 h3 => hk.block k h2 (by omega)) hk.size, hs, h.ke.trans hk, row_on h.r hk (by omega), by have := h.le; omega, fun e => ?_, hf⟩
  obtain ⟨h0, h1, h2⟩ := h.z (hc e)
  exact ⟨h0, by omega, by omega⟩
theorem LInv.push {w5 w7 w8 : World} {o : Obj} {i2 : Nat} {c3 : Int} {nd : Nd} {v' : Value} (h : LInv E w bx aa lo G i' c' m v ks w5) {j0 : Nat} {cj : Int} (h0 : St E w j0 cj) (hK : Ke E w5 w7) (hst : St E w7 i2 c3) (hi : i' ≤ i2) (hz : c3 = 0 → c' = 0 ∧ i' < i2 ∧ nd.wt + tws E i' ≤ tws E i2)
    (hk8 : Kids w bx w8 v' (m + 1) (ks ++ [nd])) (hg : (w7.alloc o).grownBy w8 v.ownBlock) (hrow : w8.heap[bx]? = some (.cells #[.int .i64 8, .string ⟨#[]⟩, .float .f64 0, v, .int .i64 aa] 25)) : LInv E w bx aa lo G i2 c3 (m + 1) v' (ks ++ [nd]) (w8.setCell ⟨bx, 3, none⟩ v') := by
  have hf := h.far
  have hfar := far_push h.kids hf.2 hg v'
  have hE := (h.ke.trans hK).far hfar
  refine ⟨set_blk hrow 3 _, hk8.on (fun k _ _ hn => set_far hn _ _) (by rw [sc_size]; exact Nat.le_refl _), h0.low hst fun k hk => hfar.block k (Nat.lt_of_lt_of_le hk (h.ke.trans hK).size) (by omega), hE, row_on (row_on h.r hK (by omega)) hfar (by omega), by have := h.le; omega, fun e => ?_, hf⟩
  obtain ⟨h5, h3, h4⟩ := hz e
  obtain ⟨h6, h1, h2⟩ := h.z h5
  rw [wtL_append]
  exact ⟨h6, by omega, by omega⟩
/-- how much a loop over statements has left to do -/
def left2 (E : Env) (w : World) : Nat := 2 * left E w + match w.cell? ⟨E.pb, 4, none⟩ with
  | some (.int _ c) => if c = 0 then 1 else 0
  | _ => 0
theorem St.left2 {E : Env} {w : World} {i : Nat} {c : Int} (h : St E w i c) : left2 E w = 2 * (E.ts.length - i) + if c = 0 then 1 else 0 := by
  have hl := h.left
  obtain ⟨a0, l, b, d, hb⟩ := h.blk
  unfold Ytfkgfibmhhlemaa.left2
  rw [cell_of hb 4 (.int .i64 c) rfl, hl]
theorem left2_lt {w1 : World} {i2 : Nat} {c3 : Int} (h : St E wr i 0) (h1 : St E w1 i2 c3) (hi : i ≤ i2) (hz : c3 = 0 → i < i2) : Ytfkgfibmhhlemaa.left2 E w1 < Ytfkgfibmhhlemaa.left2 E wr := by
  have hl := h1.len
  rw [h.left2, h1.left2, if_pos rfl]
  by_cases hc : c3 = 0
  · have := hz hc
    rw [if_pos hc]; omega
  · rw [if_neg hc]; omega
end
end Go.Proofs.Ytfkgfibmhhlemaa
namespace Go.Proofs.Ytfkgfibmhhlemaa
open Go.RowKit Go.Maps Go.WideMaps
/-- what stands behind a sign that must be -/
theorem MustPost.some {E : Env} {i : Nat} {c : Int} {s : ByteArray} {w w' : World} (h : MustPost E i c s w w') : ∃ i2 c2, St E w' i2 c2 ∧ i ≤ i2 ∧ (c2 = 0 → c = 0) := by
  obtain ⟨_, ⟨ho, hs⟩ | ⟨c2, hc, hs⟩⟩ := h
  · exact ⟨i + 1, 0, hs, Nat.le_succ _, fun _ => (isOf_tok (by decide) ho).1⟩
  · exact ⟨i, c2, hs, Nat.le_refl _, fun e => absurd e hc⟩
section
variable {E : Env} {i : Nat} {w : World} {bx : Nat} {aa : Int} {lo : Nat} {G : Prop} {i' : Nat} {c c' : Int} {m : Nat} {v : Value} {ks : List Nd} {wr w' : World}
/-- the end of a block: its closing brace -/
theorem LInv.done (h : LInv E w bx aa lo G i' c' m v ks wr) (h0 : St E w i c) (hG : i ≤ lo ∧ (G → c = 0 ∧ lo = i + 1 ∧ 1 + tws E i ≤ tws E lo)) (hp : MustPost E i' c' ⟨#[125]⟩ wr w') (d : Int) :
    NPost E i c w (.returned (.agg #[.int .i64 8, .string ⟨#[]⟩, .float .f64 0, v, .int .i64 aa])) (sets5 (w'.setCell ⟨E.pb, 6, none⟩ (.int .i64 d)) w.heap.size (.int .i64 8) (.string ⟨#[]⟩) (.float .f64 0) v (.int .i64 aa)) := by
  obtain ⟨hKm, hmp⟩ := hp
  have hf := h.far
  have hk1 := kp_set1 w' E.pb 6 (.int .i64 d)
  have hk5 := kp_sets5 (w'.setCell ⟨E.pb, 6, none⟩ (.int .i64 d)) w.heap.size (.int .i64 8) (.string ⟨#[]⟩) (.float .f64 0) v (.int .i64 aa)
  have hKx := hKm.trans hk1
  have hkids := h.kids.on (w1 := sets5 (w'.setCell ⟨E.pb, 6, none⟩ (.int .i64 d)) w.heap.size (.int .i64 8) (.string ⟨#[]⟩) (.float .f64 0) v (.int .i64 aa)) (fun k h1 h2 h3 => (hk5.block k (Nat.lt_of_lt_of_le h2 hKx.size) (by omega)).trans (hKx.block k h2 (by omega))) (Nat.le_trans hKx.size hk5.size)
  have hn := hkids.node 8 ⟨#[]⟩ 0 aa
  have h2 := h.le
  rcases hmp with ⟨hof, hst2⟩ | ⟨c2, hc2, hst2⟩
  · obtain ⟨rfl, hi2, _⟩ := isOf_tok (by decide) hof
    obtain ⟨h6, _, h3⟩ := h.z rfl
    obtain ⟨h7, h8, h9⟩ := hG.2 h6
    have hle2 := tws_le E (Nat.le_succ i')
    have e0 : (⟨#[]⟩ : ByteArray).size = 0 := rfl
    exact ⟨_, _, i' + 1, 0, rfl, hn, ⟨by decide, h.kids.ok⟩, St.own h0 (hst2.deep d) hk5 (Nat.le_refl _), (h.ke.trans hKx).own hk5 (Nat.le_refl _), by omega, fun _ => ⟨h7, by omega, by simp only [Nd.wt]; omega⟩⟩
  · exact ⟨_, _, i', c2, rfl, hn, ⟨by decide, h.kids.ok⟩, St.own h0 (hst2.deep d) hk5 (Nat.le_refl _), (h.ke.trans hKx).own hk5 (Nat.le_refl _), by omega, fun e => absurd e hc2⟩
end
set_option maxHeartbeats 8000000 in
set_option maxRecDepth 100000 in
theorem pblock_any (E : Env) (i : Nat) (hst : ∀ j, i < j → NOk 25 E j) : NOk 36 E i := by
  intro c w h
  have hsf := store_f
  have hlt := h.lt
  have hfew := h.ok.few
  have hilen := h.len
  obtain ⟨i0, hi0', hz0, hz1, hz2⟩ := info_parts info25
  have hL0 := (h.alloc (.cells row0 25)).look
  have hR : (w.alloc (.cells row0 25)).heap[w.heap.size]? = some (.cells row0 25) := heap_alloc_new w _
  have hg : w.heap.size ≠ E.pb := by omega
  have ht := hL0.t
  go_enter Try.func36, Try.ntmps36
  go_wp2_with (first
    | (go_at_call 24; refine Calls.mono ht ?_; rintro e w1 ⟨rfl, hL, hK⟩; clear ht; replace hR := row_past (row_on hR hK hg) (.cells #[.int .i64 (tk E i c).k, .string (tk E i c).t, .float .f64 (tk E i c).x, .int .i64 (tk E i c).a] 68); have hT := heap_alloc_new w1 (.cells #[.int .i64 (tk E i c).k, .string (tk E i c).t, .float .f64 (tk E i c).x, .int .i64 (tk E i c).a] 68); have hg1 : w1.heap.size ≠ E.pb := (by have := hK.size; simp at this; omega); have hs1 := hK.size; have hE := ((kp_alloc w (.cells row0 25)).weak.trans hK).alloc (.cells #[.int .i64 (tk E i c).k, .string (tk E i c).t, .float .f64 (tk E i c).x, .int .i64 (tk E i c).a] 68); replace hL := hL.kp (kp_alloc w1 (.cells #[.int .i64 (tk E i c).k, .string (tk E i c).t, .float .f64 (tk E i c).x, .int .i64 (tk E i c).a] 68)))
    | (go_at_call 46; refine Calls.mono (hL.sign _) ?_; rintro e w2 ⟨rfl, hL2, hK⟩; replace hL := hL2; replace hE := hE.trans hK; replace hR := row_on hR hK hg; replace hT := row_on hT hK hg1; obtain ⟨⟨r0, r1, r2, r3, r4⟩, y0, y1, y2, y3, y4⟩ := row5 hR; obtain ⟨⟨p0, p1, p2, p3⟩, z0, z1, z2, z3⟩ := row4 hT; clear hL2 hK; cases hβ : isOf 4 (tk E i c) ⟨#[123]⟩)
    | (go_at_call 48; refine Calls.mono (hL.into _) ?_; rintro e w3 (⟨rfl, hL2, hK⟩ | ⟨rfl, hD, hK⟩) <;> (replace hE := hE.trans hK; replace hR := row_on hR hK hg; replace hT := row_on hT hK hg1; obtain ⟨⟨r0, r1, r2, r3, r4⟩, y0, y1, y2, y3, y4⟩ := row5 hR; obtain ⟨⟨p0, p1, p2, p3⟩, z0, z1, z2, z3⟩ := row4 hT; (try replace hL := hL2); (try clear hL2)))
    | (go_at_call 34; obtain ⟨cL, hsmL, hstL⟩ := hL.st; refine Calls.mono (must_any E i cL ⟨#[123]⟩ _ hstL) ?_; rintro e w4 ⟨rfl, hmp⟩; replace hE := hE.trans hmp.1; replace hR := row_on hR hmp.1 hg; replace hT := row_on hT hmp.1 hg1; obtain ⟨⟨r0, r1, r2, r3, r4⟩, y0, y1, y2, y3, y4⟩ := row5 hR; obtain ⟨⟨p0, p1, p2, p3⟩, z0, z1, z2, z3⟩ := row4 hT; have htl := blk_lt hT; have hrl := blk_lt hR))
  all_goals try (obtain ⟨c', hc', hst'⟩ := hD; exact end5 rfl (sets5_row hR) rfl (dead_end h hc' hst' hE (Nat.le_refl _)))
  all_goals
    have hA0 : ∃ lo c1 G, (i ≤ lo ∧ (G → c = 0 ∧ lo = i + 1 ∧ 1 + tws E i ≤ tws E lo)) ∧ LInv E w w4.heap.size (tk E i c).a lo G lo c1 0 (.slice none 0 0) [] (w4.alloc (.cells #[.int .i64 8, .string ⟨#[]⟩, .float .f64 0, .slice none 0 0, .int .i64 (tk E i c).a] 25)) := by
      have hkids : Kids w w4.heap.size (w4.alloc (.cells #[.int .i64 8, .string ⟨#[]⟩, .float .f64 0, .slice none 0 0, .int .i64 (tk E i c).a] 25)) (.slice none 0 0) 0 [] := ⟨⟨[], rfl, World.ownsRow_nil _ _ _ _, fun j hj => absurd hj (Nat.not_lt_zero _)⟩, rfl, fun g e => by simp [Value.ownBlock] at e, trivial⟩
      obtain ⟨_, ⟨ho, hs⟩ | ⟨c2, hc2, hs⟩⟩ := hmp
      · obtain ⟨hcL, hil, hw0⟩ := isOf_tok (by decide) ho
        exact ⟨i + 1, 0, True, ⟨Nat.le_succ _, fun _ => ⟨hsmL.zero hcL, rfl, by omega⟩⟩, heap_alloc_new w4 _, hkids, hs.alloc _, hE.alloc _, row_past hR _, Nat.le_refl _, fun _ => ⟨trivial, by omega, by simp [wtL]⟩, hlt, hrl⟩
      · exact ⟨i, c2, False, ⟨Nat.le_refl _, fun e => e.elim⟩, heap_alloc_new w4 _, hkids, hs.alloc _, hE.alloc _, row_past hR _, Nat.le_refl _, fun e => absurd e hc2, hlt, hrl⟩
    obtain ⟨lo, c1, G, hG, hA0⟩ := hA0
    clear hR hT hL hE hmp hstL
    go_loopw [23] (fun _ wr => ∃ i' c' m v ks, LInv E w w4.heap.size (tk E i c).a lo G i' c' m v ks wr) (fun _ wr => left2 E wr)
    case atStart => exact ⟨_, _, _, _, _, hA0⟩
    case round =>
      clear hA0
      obtain ⟨i', c', m, v, ks, hA⟩ := hrel
      have hfar := hA.far
      obtain ⟨a0, l, b0, d, hblk⟩ := hA.st.blk
      have c4 := cell_of hblk 4 (.int .i64 c') rfl
      clear hblk
      by_cases hc0 : c' = 0
      · subst hc0
        have hmz := (hA.z rfl).2.1
        have hli : i < lo := by have := (hG.2 (hA.z rfl).1).2.1; omega
        have hlei := hA.le
        go_wp2_with (go_at_call 46; refine Calls.mono (hA.st.look.sign _) ?_; rintro e w5 ⟨rfl, hL, hK⟩; obtain ⟨c2, hsm, hst2⟩ := hL.st; have hB := hA.on hK hst2 (Nat.le_refl _) hsm.zero; generalize hβ2 : isOf 4 _ _ = β; cases β)
        · obtain ⟨ao, capv, hv⟩ := hB.kids.slice
          subst hv
          obtain ⟨⟨b0', b1', b2', b3', b4'⟩, s0, s1, s2, s3, s4⟩ := row5 hB.row
          obtain ⟨L, hL1, hL2, hL3⟩ := hB.kids.own
          have hcall := (hst i' (by omega)).at (hB.st.drew.look)
          have hbl := blk_lt hB.row
          have hil := hB.st.len
          have hfw : w.heap.size ≤ w5.heap.size := hB.ke.size
          have hwr5 := blk_lt hB.r
          go_region_law (first
            | (refine step_call rfl 25 #[pt E.pb 0] (by go_simp) _ hcall ?_; rintro e w7 ⟨nd, k, t, x, ao2, n2, cp2, a, i2, c3, rfl, hnd, hok, hst3, hK3, hi3, hz3⟩; refine ⟨_, rfl, ?_⟩; have hB7 := row_on (w := w5.drew) hB.row hK3 (by omega); obtain ⟨⟨g0, g1, g2, g3, g4⟩, y0, y1, y2, y3, y4⟩ := row5 hB7; have hs7 := hK3.size; have hown7 := own_heap hL2 (Nat.le_refl _) (fun j hj => hK3.block j (own_lt hB.kids hj) (by have := (hB.kids.far j hj).1; omega)); have hb7 := blk_lt hB7; clear hcall)
            | (refine step_own rfl (.tmp 33) (.tmp 36) 23 rfl w.heap.size 25 i0 _ 5 64 Try.underlying23 hi0' hz0 hz1 hz2 rfl (by decide) (.slice ao m capv) m L.flatten (by simp [Act.eval]) (by exact hown7.alloc _) ⟨w7.heap.size, 0, none⟩ 1 [.int .i64 k, .string t, .float .f64 x, .slice ao2 n2 cp2, .int .i64 a] (by simp [Act.eval]) rfl (by exact news5 _ _ rfl _ _ _ _ _) (by intro u hu; simp at hu; rcases hu with rfl | rfl | rfl | rfl | rfl <;> rfl) (by unfold maxLen; omega) (by omega) (by simp at hs7 ⊢; omega) ?_; intro v' w8 hown' hgrow hfr; have hkids8 := hB.kids.push hfar.1 (w1 := w7) ⟨hK3.os, hK3.tape, hK3.output, hK3.size, hK3.block⟩ hnd hbl hwr5 hok hL1 hL3 hown' hgrow hfr; have hrow8 := hgrow.block w4.heap.size (by simp; omega) (fun e => (hB.kids.far w4.heap.size e.symm).2 rfl); obtain ⟨ao', n', c8, rfl⟩ := own_slice hown'; have hrow9 := (hrow8.trans (heap_alloc_old w7 _ hb7)).trans hB7; obtain ⟨⟨f0, f1, f2, f3, f4⟩, e0, e1, e2, e3, e4⟩ := row5 hrow9))
          all_goals
            go_wp2_with fail
            have hC := hB.push h ⟨hK3.os, hK3.tape, hK3.output, hK3.size, hK3.block⟩ hst3 hi3 hz3 hkids8 hgrow hrow9
            exact ⟨⟨_, _, _, _, _, hC⟩, left2_lt hA.st hC.st hi3 fun e => (hz3 e).2.1⟩
        · (obtain ⟨aow, capw, hv⟩ := hB.kids.slice; (try subst hv); go_wp2_with (go_at_call 34; refine Calls.mono (must_any E _ _ ⟨#[125]⟩ _ hB.st) ?_; rintro e w9 ⟨rfl, hmp⟩; obtain ⟨i9, c9, hst9, hi9, hz9⟩ := hmp.some; have hB9' := hB.on hmp.1 hst9 hi9 hz9; have hR9 := hB9'.r; have hB9 := hB9'.row; obtain ⟨a0, l, b0, d, hblk⟩ := hst9.blk; have c6 := cell_of hblk 6 (.int .i64 d) rfl; have zf6 := frozen_of hblk 6; clear hblk; have hltb := hst9.lt; have hrl9 := blk_lt hR9; have hbl9 := blk_lt hB9; obtain ⟨⟨r0, r1, r2, r3, r4⟩, y0, y1, y2, y3, y4⟩ := row5 hR9; obtain ⟨⟨b0', b1', b2', b3', b4'⟩, _, _, _, _, _⟩ := row5 hB9); exact end5 rfl (sets5_row (row_on hR9 (kp_set1 w9 E.pb 6 _) hg)) rfl (hB.done h hG hmp _))
      · have hcb : (c' == 0) = false := by simpa using hc0
        have hB := hA
        (obtain ⟨aow, capw, hv⟩ := hB.kids.slice; (try subst hv); go_wp2_with (go_at_call 34; refine Calls.mono (must_any E _ _ ⟨#[125]⟩ _ hB.st) ?_; rintro e w9 ⟨rfl, hmp⟩; obtain ⟨i9, c9, hst9, hi9, hz9⟩ := hmp.some; have hB9' := hB.on hmp.1 hst9 hi9 hz9; have hR9 := hB9'.r; have hB9 := hB9'.row; obtain ⟨a0, l, b0, d, hblk⟩ := hst9.blk; have c6 := cell_of hblk 6 (.int .i64 d) rfl; have zf6 := frozen_of hblk 6; clear hblk; have hltb := hst9.lt; have hrl9 := blk_lt hR9; have hbl9 := blk_lt hB9; obtain ⟨⟨r0, r1, r2, r3, r4⟩, y0, y1, y2, y3, y4⟩ := row5 hR9; obtain ⟨⟨b0', b1', b2', b3', b4'⟩, _, _, _, _, _⟩ := row5 hB9); exact end5 rfl (sets5_row (row_on hR9 (kp_set1 w9 E.pb 6 _) hg)) rfl (hB.done h hG hmp _))
end Go.Proofs.Ytfkgfibmhhlemaa
namespace Go.Proofs.Ytfkgfibmhhlemaa
open Go.RowKit Go.Maps Go.WideMaps
theorem Look.word {E : Env} {i : Nat} {c : Int} {w w1 : World} (h : Look E i c w w1) (s : ByteArray) : Calls Try.prog 32 #[pt E.pb 0, .string s] w1 fun e w' => e = .returned (.bool (isOf 1 (tk E i c) s)) ∧ Look E i c w w' ∧ Ke E w1 w' := by
  obtain ⟨⟨c', h2, h3⟩, h4⟩ := h
  refine (pword_any E i c' s w1 h3).mono ?_
  rintro e w' ⟨rfl, ⟨c2, h5, h6⟩, h7⟩
  exact ⟨by rw [h2.tk], ⟨⟨c2, h2.trans h5, h6⟩, h4.trans h7⟩, h7⟩
theorem NamePost.some {E : Env} {i : Nat} {c : Int} {w w' : World} {e : Ending} (h : NamePost E i c w e w') : ∃ nm a i2 c2, e = .returned (.tuple #[.string nm, .int .i64 a]) ∧ St E w' i2 c2 ∧ Ke E w w' ∧ i ≤ i2 ∧ (c2 = 0 → c = 0 ∧ 1 + nm.size + tws E i ≤ tws E i2) := by
  obtain ⟨hk, ⟨rfl, hi, rfl, hs⟩ | ⟨c2, hc, rfl, hs⟩⟩ := h
  · refine ⟨_, _, i + 1, 0, rfl, hs, hk, Nat.le_succ _, fun _ => ⟨rfl, ?_⟩⟩
    rw [tws_succ E i hi]
    unfold tk
    simp [hi]
    omega
  · exact ⟨_, _, i, c2, rfl, hs, hk, Nat.le_refl _, fun e => absurd e hc⟩
theorem row5_set0 {w : World} {g : Nat} {a b c d e : Value} {ty : TypeId} (h : w.heap[g]? = some (.cells #[a, b, c, d, e] ty)) (v : Value) : (w.setCell ⟨g, 0, none⟩ v).heap[g]? = some (.cells #[v, b, c, d, e] ty) := set_blk h 0 v
theorem row5_set1 {w : World} {g : Nat} {a b c d e : Value} {ty : TypeId} (h : w.heap[g]? = some (.cells #[a, b, c, d, e] ty)) (v : Value) : (w.setCell ⟨g, 1, none⟩ v).heap[g]? = some (.cells #[a, v, c, d, e] ty) := set_blk h 1 v
theorem row5_set3 {w : World} {g : Nat} {a b c d e : Value} {ty : TypeId} (h : w.heap[g]? = some (.cells #[a, b, c, d, e] ty)) (v : Value) : (w.setCell ⟨g, 3, none⟩ v).heap[g]? = some (.cells #[a, b, c, v, e] ty) := set_blk h 3 v
/-- one kid more at a node's place, the end of a statement -/
theorem kid_end {w w6 w7 W : World} {g : Nat} {nd : Nd} {c0 c1 c2 c3 c4 : Value} (hn : NodeAt (New w6 w7) w7 nd (.agg #[c0, c1, c2, c3, c4])) (hk : Kp (fun j => j < w6.heap.size) w7 W) (hg : W.heap[g]? = some (.cells #[c0, c1, c2, c3, c4] 25)) (h6 : w.heap.size ≤ w6.heap.size) (hgw : w.heap.size ≤ g) : KidsAt (New w W) W [nd] (.slice (some ⟨g, 0, none⟩) 1 1) 0 :=
  one_kid hg ⟨hgw, blk_lt hg⟩ (hn.move hk h6)
set_option maxHeartbeats 8000000 in
set_option maxRecDepth 100000 in
theorem pstmt_set (E : Env) (i : Nat) (c : Int) (w : World) (h : St E w i c) (hs : isOf 1 (tk E i c) ⟨#[115, 101, 116]⟩ = true) : Calls Try.prog 25 #[pt E.pb 0] w (NPost E i c w) := by
  obtain ⟨rfl, hi0, hw0⟩ := isOf_tok (by decide) hs
  have hsf := store_f
  have hlt := h.lt
  have hfew := h.ok.few
  have hilen := h.len
  have hL0 := (h.alloc (.cells row0 25)).look
  have hR : (w.alloc (.cells row0 25)).heap[w.heap.size]? = some (.cells row0 25) := heap_alloc_new w _
  have hg : w.heap.size ≠ E.pb := by omega
  have ht := hL0.t
  go_enter Try.func25, Try.ntmps25
  go_wp2_with (first
    | (go_at_call 24; refine Calls.mono ht ?_; rintro e w1 ⟨rfl, hL, hK⟩; clear ht; have hs1 := hK.size; have hgl := hL.st.choose_spec.2.lt; replace hR := row_past (row_past (row_on hR hK hg) (.cells #[.int .i64 (tk E i 0).k, .string (tk E i 0).t, .float .f64 (tk E i 0).x, .int .i64 (tk E i 0).a] 68)) (.cells #[.int .i64 0, .string ⟨#[]⟩, .float .f64 0, .slice none 0 0, .int .i64 (tk E i 0).a] 25); have hT := row_past (heap_alloc_new w1 (.cells #[.int .i64 (tk E i 0).k, .string (tk E i 0).t, .float .f64 (tk E i 0).x, .int .i64 (tk E i 0).a] 68)) (.cells #[.int .i64 0, .string ⟨#[]⟩, .float .f64 0, .slice none 0 0, .int .i64 (tk E i 0).a] 25); have hX := heap_alloc_new (w1.alloc (.cells #[.int .i64 (tk E i 0).k, .string (tk E i 0).t, .float .f64 (tk E i 0).x, .int .i64 (tk E i 0).a] 68)) (.cells #[.int .i64 0, .string ⟨#[]⟩, .float .f64 0, .slice none 0 0, .int .i64 (tk E i 0).a] 25); rw [World.size_alloc] at hX; have hg1 : w1.heap.size ≠ E.pb := (by omega); have hg2 : w1.heap.size + 1 ≠ E.pb := (by omega); have hw1 : w.heap.size < w1.heap.size := (by rw [World.size_alloc] at hs1; omega); have hE := (((kp_alloc w (.cells row0 25)).weak.trans hK).alloc (.cells #[.int .i64 (tk E i 0).k, .string (tk E i 0).t, .float .f64 (tk E i 0).x, .int .i64 (tk E i 0).a] 68)).alloc (.cells #[.int .i64 0, .string ⟨#[]⟩, .float .f64 0, .slice none 0 0, .int .i64 (tk E i 0).a] 25); replace hL := hL.kp ((kp_alloc w1 (.cells #[.int .i64 (tk E i 0).k, .string (tk E i 0).t, .float .f64 (tk E i 0).x, .int .i64 (tk E i 0).a] 68)).alloc (.cells #[.int .i64 0, .string ⟨#[]⟩, .float .f64 0, .slice none 0 0, .int .i64 (tk E i 0).a] 25)); obtain ⟨⟨p0, p1, p2, p3⟩, z0, z1, z2, z3⟩ := row4 hT)
    | (go_at_call 32; refine Calls.mono (hL.word _) ?_; rintro e w2 ⟨rfl, hL2, hK⟩; replace hL := hL2; replace hE := hE.trans hK; replace hR := row_on hR hK hg; replace hT := row_on hT hK hg1; replace hX := row_on hX hK hg2; obtain ⟨⟨x0, x1, x2, x3, x4⟩, v0, v1, v2, v3, v4⟩ := row5 hX; obtain ⟨⟨p0, p1, p2, p3⟩, z0, z1, z2, z3⟩ := row4 hT; clear hL2 hK; have hS := hL.live rfl hi0; obtain ⟨a0, l, b0, d, hblk⟩ := hS.blk; have hbl := hS.lt; have c1 := cell_of hblk 1 (.int .i64 i) rfl; have zf := frozen_of hblk 1; clear hblk; have hM := hS.moved hi0; have hq1 := kp_set1 w2 E.pb 1 (.int .i64 (i + 1)); have hq2 := kp_set1 (w2.setCell ⟨E.pb, 1, none⟩ (.int .i64 (i + 1))) (w1.heap.size + 1) 0 (.int .i64 9); replace hM := St.own h hM hq2 (by omega); replace hE := (hE.trans hq1).own hq2 (by omega); replace hR := row_on (row_on hR hq1 hg) hq2 (by omega); replace hX := row5_set0 (row_on hX hq1 hg2) (.int .i64 9))
    | (go_at_call 33; refine Calls.mono (name_any E (i + 1) 0 _ hM) ?_; rintro e w4 hnp; obtain ⟨nm, na, i4, c4, rfl, hst4, hK, hi4, hz4⟩ := hnp.some; clear hM; replace hE := hE.trans hK; replace hR := row_on hR hK hg; replace hX := row_on hX hK hg2; obtain ⟨⟨x0, x1, x2, x3, x4⟩, v0, v1, v2, v3, v4⟩ := row5 hX; have hq3 := kp_set1 w4 (w1.heap.size + 1) 1 (.string nm); have hM5 := St.own h hst4 hq3 (by omega); replace hE := hE.own hq3 (by omega); replace hR := row_on hR hq3 (by omega); replace hX := row5_set1 hX (.string nm))
    | (go_at_call 34; have hgd := hM5; clear hgd; refine Calls.mono (must_any E i4 c4 ⟨#[61]⟩ _ hM5) ?_; rintro e w6 ⟨rfl, hmp⟩; obtain ⟨i6, c6, hst6, hi6, hz6⟩ := hmp.some; clear hM5; replace hE := hE.trans hmp.1; replace hR := row_on hR hmp.1 hg; replace hX := row_on hX hmp.1 hg2; have hb6 := blk_lt hX; have hr6 := blk_lt hR; have hl6 := hst6.lt; have hE6 := hE)
    | (go_at_call 35; refine Calls.mono ((pexpr_any E i6).at hst6.look) ?_; rintro e w7 ⟨nd, k, t, x, ao, n, cp, a, i7, c7, rfl, hn, hok, hst7, hK7, hi7, hz7⟩; replace hE := hE.trans hK7; replace hR := row_on hR hK7 hg; replace hX := row_on hX hK7 hg2; obtain ⟨⟨x0, x1, x2, x3, x4⟩, v0, v1, v2, v3, v4⟩ := row5 hX; have hs7 := hK7.size; have hbx7 := blk_lt hX; have hq7 := kp_set1 w7 (w1.heap.size + 1) 3 (.slice (some ⟨w7.heap.size, 0, none⟩) 1 1); have hM7 := (St.own h hst7 hq7 (by omega)).alloc (.cells #[.int .i64 k, .string t, .float .f64 x, .slice ao n cp, .int .i64 a] 25); replace hE := (hE.own hq7 (by omega)).alloc (.cells #[.int .i64 k, .string t, .float .f64 x, .slice ao n cp, .int .i64 a] 25); replace hR := row_past (row_on hR hq7 (by omega)) (.cells #[.int .i64 k, .string t, .float .f64 x, .slice ao n cp, .int .i64 a] 25); replace hX := row_past (row5_set3 hX (.slice (some ⟨w7.heap.size, 0, none⟩) 1 1)) (.cells #[.int .i64 k, .string t, .float .f64 x, .slice ao n cp, .int .i64 a] 25); have hG := heap_alloc_new (w7.setCell ⟨w1.heap.size + 1, 3, none⟩ (.slice (some ⟨w7.heap.size, 0, none⟩) 1 1)) (.cells #[.int .i64 k, .string t, .float .f64 x, .slice ao n cp, .int .i64 a] 25); rw [sc_size] at hG)
    | (go_at_call 34; have hgd := hM7; clear hgd; refine Calls.mono (must_any E i7 c7 ⟨#[59]⟩ _ hM7) ?_; rintro e w9 ⟨rfl, hmp9⟩; obtain ⟨i9, c9, hst9, hi9, hz9⟩ := hmp9.some; replace hE := hE.trans hmp9.1; replace hR := row_on hR hmp9.1 hg; replace hX := row_on hX hmp9.1 hg2; replace hG := row_on hG hmp9.1 (by omega); obtain ⟨⟨x0, x1, x2, x3, x4⟩, v0, v1, v2, v3, v4⟩ := row5 hX; obtain ⟨⟨r0, r1, r2, r3, r4⟩, y0, y1, y2, y3, y4⟩ := row5 hR))
  have hk5 := kp_sets5 w9 w.heap.size (.int .i64 9) (.string nm) (.float .f64 0) (.slice (some ⟨w7.heap.size, 0, none⟩) 1 1) (.int .i64 (tk E i 0).a)
  have hkid := kid_end (w := w) (g := w7.heap.size) hn (((((hq7.imp (fun _ e => by omega)).alloc (.cells #[.int .i64 k, .string t, .float .f64 x, .slice ao n cp, .int .i64 a] 25)).trans (hmp9.1.imp (fun _ e => by omega))).trans (hk5.imp (fun _ e => by omega)))) (row_on hG hk5 (by omega)) hE6.size (by omega)
  have hle9 := tws_le E hi9
  have hle6 := tws_le E hi6
  exact end5 rfl (sets5_row hR) rfl ⟨.mk 9 nm 0 [nd] (tk E i 0).a, _, i9, c9, rfl, ⟨_, rfl, .inr ⟨_, 0, 1, rfl, Nat.le_refl _, by unfold maxLen; omega⟩, hkid⟩, ⟨by decide, hok, trivial⟩, St.own h hst9 hk5 (Nat.le_refl _), hE.own hk5 (Nat.le_refl _), by omega, fun e => by
    obtain ⟨h1, h2, h3⟩ := hz7 (hz9 e)
    obtain ⟨_, h4⟩ := hz4 (hz6 h1)
    refine ⟨rfl, by omega, ?_⟩
    simp only [Nd.wt, wtL]
    omega⟩
end Go.Proofs.Ytfkgfibmhhlemaa

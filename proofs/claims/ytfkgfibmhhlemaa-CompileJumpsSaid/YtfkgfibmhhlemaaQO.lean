/- CompileScripts: a part of the proof: statements (O0 O1 O2 O3). No conditions. -/
import Derived.Test.YtfkgfibmhhlemaaQN
namespace Go.Proofs.Ytfkgfibmhhlemaa
open Go.RowKit Go.Maps Go.WideMaps
set_option maxHeartbeats 8000000 in
set_option maxRecDepth 100000 in
theorem pstmt_do (E : Env) (i : Nat) (c : Int) (w : World) (h : St E w i c) (hs1 : isOf 1 (tk E i c) ⟨#[115, 101, 116]⟩ = false) (hs2 : isOf 1 (tk E i c) ⟨#[105, 102]⟩ = false) (hs3 : isOf 1 (tk E i c) ⟨#[119, 104, 105, 108, 101]⟩ = false) (hs4 : isOf 1 (tk E i c) ⟨#[100, 111]⟩ = true) (hfb : ((tk E i c).t.toList == [102, 97, 105, 108]) = false) : Calls Try.prog 25 #[pt E.pb 0] w (NPost E i c w) := by
  obtain ⟨rfl, hi0, hw0⟩ := isOf_tok (by decide) hs4
  have hsf := store_f
  have hlt := h.lt
  have hfew := h.ok.few
  have hilen := h.len
  have hL0 := (h.alloc (.cells row0 25)).look
  have hR : (w.alloc (.cells row0 25)).heap[w.heap.size]? = some (.cells row0 25) := heap_alloc_new w _
  have hg : w.heap.size ≠ E.pb := by omega
  have ht := hL0.t
  go_enter Try.func25, Try.ntmps25
  go_wp2_with (first
    | (go_at_call 24; refine Calls.mono ht ?_; rintro e w1 ⟨rfl, hL, hK⟩; clear ht; have hs1 := hK.size; have hgl := hL.st.choose_spec.2.lt; replace hR := row_past (row_past (row_on hR hK hg) (.cells #[.int .i64 (tk E i 0).k, .string (tk E i 0).t, .float .f64 (tk E i 0).x, .int .i64 (tk E i 0).a] 68)) (.cells #[.int .i64 0, .string ⟨#[]⟩, .float .f64 0, .slice none 0 0, .int .i64 (tk E i 0).a] 25); have hT := row_past (heap_alloc_new w1 (.cells #[.int .i64 (tk E i 0).k, .string (tk E i 0).t, .float .f64 (tk E i 0).x, .int .i64 (tk E i 0).a] 68)) (.cells #[.int .i64 0, .string ⟨#[]⟩, .float .f64 0, .slice none 0 0, .int .i64 (tk E i 0).a] 25); have hX := heap_alloc_new (w1.alloc (.cells #[.int .i64 (tk E i 0).k, .string (tk E i 0).t, .float .f64 (tk E i 0).x, .int .i64 (tk E i 0).a] 68)) (.cells #[.int .i64 0, .string ⟨#[]⟩, .float .f64 0, .slice none 0 0, .int .i64 (tk E i 0).a] 25); rw [World.size_alloc] at hX; have hg1 : w1.heap.size ≠ E.pb := (by omega); have hg2 : w1.heap.size + 1 ≠ E.pb := (by omega); have hw1 : w.heap.size < w1.heap.size := (by rw [World.size_alloc] at hs1; omega); have hE := (((kp_alloc w (.cells row0 25)).weak.trans hK).alloc (.cells #[.int .i64 (tk E i 0).k, .string (tk E i 0).t, .float .f64 (tk E i 0).x, .int .i64 (tk E i 0).a] 68)).alloc (.cells #[.int .i64 0, .string ⟨#[]⟩, .float .f64 0, .slice none 0 0, .int .i64 (tk E i 0).a] 25); replace hL := hL.kp ((kp_alloc w1 (.cells #[.int .i64 (tk E i 0).k, .string (tk E i 0).t, .float .f64 (tk E i 0).x, .int .i64 (tk E i 0).a] 68)).alloc (.cells #[.int .i64 0, .string ⟨#[]⟩, .float .f64 0, .slice none 0 0, .int .i64 (tk E i 0).a] 25)); obtain ⟨⟨p0, p1, p2, p3⟩, z0, z1, z2, z3⟩ := row4 hT)
    | (go_at_call 32; refine Calls.mono (hL.word _) ?_; rintro e w2 ⟨rfl, hL2, hK⟩; replace hL := hL2; replace hE := hE.trans hK; replace hR := row_on hR hK hg; replace hT := row_on hT hK hg1; replace hX := row_on hX hK hg2; obtain ⟨⟨x0, x1, x2, x3, x4⟩, v0, v1, v2, v3, v4⟩ := row5 hX; obtain ⟨⟨p0, p1, p2, p3⟩, z0, z1, z2, z3⟩ := row4 hT; clear hL2 hK; have hS := hL.live rfl hi0; obtain ⟨a0, l, b0, d, hblk⟩ := hS.blk; have hbl := hS.lt; have c1 := cell_of hblk 1 (.int .i64 i) rfl; have zf := frozen_of hblk 1; clear hblk)
    | (go_at_call 35; have hM := hS.moved hi0; have hq1 := kp_set1 w2 E.pb 1 (.int .i64 (i + 1)); replace hE := hE.trans hq1; replace hR := row_on hR hq1 hg; replace hX := row_on hX hq1 hg2; replace hT := row_on hT hq1 hg1; replace hM := St.own h hM (kp_set1 _ (w1.heap.size + 1) 0 (.int .i64 12)) (by omega); replace hE := hE.own (kp_set1 _ (w1.heap.size + 1) 0 (.int .i64 12)) (by omega); replace hR := row_on hR (kp_set1 _ (w1.heap.size + 1) 0 (.int .i64 12)) (by omega); replace hT := row_on hT (kp_set1 _ (w1.heap.size + 1) 0 (.int .i64 12)) (by omega); replace hX := row5_set0 hX (.int .i64 12); have hE6 := hE; have hb6 := blk_lt hX; have hr6 := blk_lt hR; have hl6 := hM.lt; refine Calls.mono ((pexpr_any E (i + 1)).at hM.look) ?_; rintro e w7 ⟨nd, k, t, x, ao, n, cp, a, i7, c7, rfl, hn, hok, hst7, hK7, hi7, hz7⟩; replace hE := hE.trans hK7; replace hR := row_on hR hK7 hg; replace hX := row_on hX hK7 hg2; obtain ⟨⟨x0, x1, x2, x3, x4⟩, v0, v1, v2, v3, v4⟩ := row5 hX; have hs7 := hK7.size; have hbx7 := blk_lt hX; have hq7 := kp_set1 w7 (w1.heap.size + 1) 3 (.slice (some ⟨w7.heap.size, 0, none⟩) 1 1); have hM7 := (St.own h hst7 hq7 (by omega)).alloc (.cells #[.int .i64 k, .string t, .float .f64 x, .slice ao n cp, .int .i64 a] 25); replace hE := (hE.own hq7 (by omega)).alloc (.cells #[.int .i64 k, .string t, .float .f64 x, .slice ao n cp, .int .i64 a] 25); replace hR := row_past (row_on hR hq7 (by omega)) (.cells #[.int .i64 k, .string t, .float .f64 x, .slice ao n cp, .int .i64 a] 25); replace hX := row_past (row5_set3 hX (.slice (some ⟨w7.heap.size, 0, none⟩) 1 1)) (.cells #[.int .i64 k, .string t, .float .f64 x, .slice ao n cp, .int .i64 a] 25); have hG := heap_alloc_new (w7.setCell ⟨w1.heap.size + 1, 3, none⟩ (.slice (some ⟨w7.heap.size, 0, none⟩) 1 1)) (.cells #[.int .i64 k, .string t, .float .f64 x, .slice ao n cp, .int .i64 a] 25); rw [sc_size] at hG)
    | (go_at_call 34; refine Calls.mono (must_any E i7 c7 ⟨#[59]⟩ _ hM7) ?_; rintro e w9 ⟨rfl, hmp9⟩; obtain ⟨i9, c9, hst9, hi9, hz9⟩ := hmp9.some; replace hE := hE.trans hmp9.1; replace hR := row_on hR hmp9.1 hg; replace hX := row_on hX hmp9.1 hg2; replace hG := row_on hG hmp9.1 (by omega); obtain ⟨⟨x0, x1, x2, x3, x4⟩, v0, v1, v2, v3, v4⟩ := row5 hX; obtain ⟨⟨r0, r1, r2, r3, r4⟩, y0, y1, y2, y3, y4⟩ := row5 hR))
  have hk5 := kp_sets5 w9 w.heap.size (.int .i64 12) (.string ⟨#[]⟩) (.float .f64 0) (.slice (some ⟨w7.heap.size, 0, none⟩) 1 1) (.int .i64 (tk E i 0).a)
  have hkid := kid_end (w := w) (g := w7.heap.size) hn (((((hq7.imp (fun _ e => by omega)).alloc (.cells #[.int .i64 k, .string t, .float .f64 x, .slice ao n cp, .int .i64 a] 25)).trans (hmp9.1.imp (fun _ e => by omega))).trans (hk5.imp (fun _ e => by omega)))) (row_on hG hk5 (by omega)) hE6.size (by omega)
  have hle9 := tws_le E hi9
  have ez : (⟨#[]⟩ : ByteArray).size = 0 := rfl
  exact end5 rfl (sets5_row hR) rfl ⟨.mk 12 ⟨#[]⟩ 0 [nd] (tk E i 0).a, _, i9, c9, rfl, ⟨_, rfl, .inr ⟨_, 0, 1, rfl, Nat.le_refl _, by unfold maxLen; omega⟩, hkid⟩, ⟨by decide, hok, trivial⟩, St.own h hst9 hk5 (Nat.le_refl _), hE.own hk5 (Nat.le_refl _), by omega, fun e => by
    obtain ⟨h1, h2, h3⟩ := hz7 (hz9 e)
    refine ⟨rfl, by omega, ?_⟩
    simp only [Nd.wt, wtL]
    omega⟩
set_option maxHeartbeats 8000000 in
set_option maxRecDepth 100000 in
theorem pstmt_do2 (E : Env) (i : Nat) (c : Int) (w : World) (h : St E w i c) (hs1 : isOf 1 (tk E i c) ⟨#[115, 101, 116]⟩ = false) (hs2 : isOf 1 (tk E i c) ⟨#[105, 102]⟩ = false) (hs3 : isOf 1 (tk E i c) ⟨#[119, 104, 105, 108, 101]⟩ = false) (hs4 : isOf 1 (tk E i c) ⟨#[100, 111]⟩ = true) (hfb : ((tk E i c).t.toList == [102, 97, 105, 108]) = true) : Calls Try.prog 25 #[pt E.pb 0] w (NPost E i c w) := by
  obtain ⟨rfl, hi0, hw0⟩ := isOf_tok (by decide) hs4
  have hsf := store_f
  have hlt := h.lt
  have hfew := h.ok.few
  have hilen := h.len
  have hL0 := (h.alloc (.cells row0 25)).look
  have hR : (w.alloc (.cells row0 25)).heap[w.heap.size]? = some (.cells row0 25) := heap_alloc_new w _
  have hg : w.heap.size ≠ E.pb := by omega
  have ht := hL0.t
  go_enter Try.func25, Try.ntmps25
  go_wp2_with (first
    | (go_at_call 24; refine Calls.mono ht ?_; rintro e w1 ⟨rfl, hL, hK⟩; clear ht; have hs1 := hK.size; have hgl := hL.st.choose_spec.2.lt; replace hR := row_past (row_past (row_on hR hK hg) (.cells #[.int .i64 (tk E i 0).k, .string (tk E i 0).t, .float .f64 (tk E i 0).x, .int .i64 (tk E i 0).a] 68)) (.cells #[.int .i64 0, .string ⟨#[]⟩, .float .f64 0, .slice none 0 0, .int .i64 (tk E i 0).a] 25); have hT := row_past (heap_alloc_new w1 (.cells #[.int .i64 (tk E i 0).k, .string (tk E i 0).t, .float .f64 (tk E i 0).x, .int .i64 (tk E i 0).a] 68)) (.cells #[.int .i64 0, .string ⟨#[]⟩, .float .f64 0, .slice none 0 0, .int .i64 (tk E i 0).a] 25); have hX := heap_alloc_new (w1.alloc (.cells #[.int .i64 (tk E i 0).k, .string (tk E i 0).t, .float .f64 (tk E i 0).x, .int .i64 (tk E i 0).a] 68)) (.cells #[.int .i64 0, .string ⟨#[]⟩, .float .f64 0, .slice none 0 0, .int .i64 (tk E i 0).a] 25); rw [World.size_alloc] at hX; have hg1 : w1.heap.size ≠ E.pb := (by omega); have hg2 : w1.heap.size + 1 ≠ E.pb := (by omega); have hw1 : w.heap.size < w1.heap.size := (by rw [World.size_alloc] at hs1; omega); have hE := (((kp_alloc w (.cells row0 25)).weak.trans hK).alloc (.cells #[.int .i64 (tk E i 0).k, .string (tk E i 0).t, .float .f64 (tk E i 0).x, .int .i64 (tk E i 0).a] 68)).alloc (.cells #[.int .i64 0, .string ⟨#[]⟩, .float .f64 0, .slice none 0 0, .int .i64 (tk E i 0).a] 25); replace hL := hL.kp ((kp_alloc w1 (.cells #[.int .i64 (tk E i 0).k, .string (tk E i 0).t, .float .f64 (tk E i 0).x, .int .i64 (tk E i 0).a] 68)).alloc (.cells #[.int .i64 0, .string ⟨#[]⟩, .float .f64 0, .slice none 0 0, .int .i64 (tk E i 0).a] 25)); obtain ⟨⟨p0, p1, p2, p3⟩, z0, z1, z2, z3⟩ := row4 hT)
    | (go_at_call 32; refine Calls.mono (hL.word _) ?_; rintro e w2 ⟨rfl, hL2, hK⟩; replace hL := hL2; replace hE := hE.trans hK; replace hR := row_on hR hK hg; replace hT := row_on hT hK hg1; replace hX := row_on hX hK hg2; obtain ⟨⟨x0, x1, x2, x3, x4⟩, v0, v1, v2, v3, v4⟩ := row5 hX; obtain ⟨⟨p0, p1, p2, p3⟩, z0, z1, z2, z3⟩ := row4 hT; clear hL2 hK; have hS := hL.live rfl hi0; obtain ⟨a0, l, b0, d, hblk⟩ := hS.blk; have hbl := hS.lt; have c1 := cell_of hblk 1 (.int .i64 i) rfl; have zf := frozen_of hblk 1; clear hblk)
    | (go_at_call 35; have hM := hS.moved hi0; have hq1 := kp_set1 w2 E.pb 1 (.int .i64 (i + 1)); replace hE := hE.trans hq1; replace hR := row_on hR hq1 hg; replace hX := row_on hX hq1 hg2; replace hT := row_on hT hq1 hg1; replace hM := St.own h hM (kp_set1 _ (w1.heap.size + 1) 0 (.int .i64 12)) (by omega); replace hE := hE.own (kp_set1 _ (w1.heap.size + 1) 0 (.int .i64 12)) (by omega); replace hR := row_on hR (kp_set1 _ (w1.heap.size + 1) 0 (.int .i64 12)) (by omega); replace hT := row_on hT (kp_set1 _ (w1.heap.size + 1) 0 (.int .i64 12)) (by omega); replace hX := row5_set0 hX (.int .i64 12); replace hM := St.own h hM (kp_set1 _ (w1.heap.size + 1) 0 (.int .i64 13)) (by omega); replace hE := hE.own (kp_set1 _ (w1.heap.size + 1) 0 (.int .i64 13)) (by omega); replace hR := row_on hR (kp_set1 _ (w1.heap.size + 1) 0 (.int .i64 13)) (by omega); replace hT := row_on hT (kp_set1 _ (w1.heap.size + 1) 0 (.int .i64 13)) (by omega); replace hX := row5_set0 hX (.int .i64 13); have hE6 := hE; have hb6 := blk_lt hX; have hr6 := blk_lt hR; have hl6 := hM.lt; refine Calls.mono ((pexpr_any E (i + 1)).at hM.look) ?_; rintro e w7 ⟨nd, k, t, x, ao, n, cp, a, i7, c7, rfl, hn, hok, hst7, hK7, hi7, hz7⟩; replace hE := hE.trans hK7; replace hR := row_on hR hK7 hg; replace hX := row_on hX hK7 hg2; obtain ⟨⟨x0, x1, x2, x3, x4⟩, v0, v1, v2, v3, v4⟩ := row5 hX; have hs7 := hK7.size; have hbx7 := blk_lt hX; have hq7 := kp_set1 w7 (w1.heap.size + 1) 3 (.slice (some ⟨w7.heap.size, 0, none⟩) 1 1); have hM7 := (St.own h hst7 hq7 (by omega)).alloc (.cells #[.int .i64 k, .string t, .float .f64 x, .slice ao n cp, .int .i64 a] 25); replace hE := (hE.own hq7 (by omega)).alloc (.cells #[.int .i64 k, .string t, .float .f64 x, .slice ao n cp, .int .i64 a] 25); replace hR := row_past (row_on hR hq7 (by omega)) (.cells #[.int .i64 k, .string t, .float .f64 x, .slice ao n cp, .int .i64 a] 25); replace hX := row_past (row5_set3 hX (.slice (some ⟨w7.heap.size, 0, none⟩) 1 1)) (.cells #[.int .i64 k, .string t, .float .f64 x, .slice ao n cp, .int .i64 a] 25); have hG := heap_alloc_new (w7.setCell ⟨w1.heap.size + 1, 3, none⟩ (.slice (some ⟨w7.heap.size, 0, none⟩) 1 1)) (.cells #[.int .i64 k, .string t, .float .f64 x, .slice ao n cp, .int .i64 a] 25); rw [sc_size] at hG)
    | (go_at_call 34; refine Calls.mono (must_any E i7 c7 ⟨#[59]⟩ _ hM7) ?_; rintro e w9 ⟨rfl, hmp9⟩; obtain ⟨i9, c9, hst9, hi9, hz9⟩ := hmp9.some; replace hE := hE.trans hmp9.1; replace hR := row_on hR hmp9.1 hg; replace hX := row_on hX hmp9.1 hg2; replace hG := row_on hG hmp9.1 (by omega); obtain ⟨⟨x0, x1, x2, x3, x4⟩, v0, v1, v2, v3, v4⟩ := row5 hX; obtain ⟨⟨r0, r1, r2, r3, r4⟩, y0, y1, y2, y3, y4⟩ := row5 hR))
  have hk5 := kp_sets5 w9 w.heap.size (.int .i64 13) (.string ⟨#[]⟩) (.float .f64 0) (.slice (some ⟨w7.heap.size, 0, none⟩) 1 1) (.int .i64 (tk E i 0).a)
  have hkid := kid_end (w := w) (g := w7.heap.size) hn (((((hq7.imp (fun _ e => by omega)).alloc (.cells #[.int .i64 k, .string t, .float .f64 x, .slice ao n cp, .int .i64 a] 25)).trans (hmp9.1.imp (fun _ e => by omega))).trans (hk5.imp (fun _ e => by omega)))) (row_on hG hk5 (by omega)) hE6.size (by omega)
  have hle9 := tws_le E hi9
  have ez : (⟨#[]⟩ : ByteArray).size = 0 := rfl
  exact end5 rfl (sets5_row hR) rfl ⟨.mk 13 ⟨#[]⟩ 0 [nd] (tk E i 0).a, _, i9, c9, rfl, ⟨_, rfl, .inr ⟨_, 0, 1, rfl, Nat.le_refl _, by unfold maxLen; omega⟩, hkid⟩, ⟨by decide, hok, trivial⟩, St.own h hst9 hk5 (Nat.le_refl _), hE.own hk5 (Nat.le_refl _), by omega, fun e => by
    obtain ⟨h1, h2, h3⟩ := hz7 (hz9 e)
    refine ⟨rfl, by omega, ?_⟩
    simp only [Nd.wt, wtL]
    omega⟩
set_option maxHeartbeats 8000000 in
set_option maxRecDepth 100000 in
theorem pstmt_fail (E : Env) (i : Nat) (c : Int) (w : World) (h : St E w i c) (hs1 : isOf 1 (tk E i c) ⟨#[115, 101, 116]⟩ = false) (hs2 : isOf 1 (tk E i c) ⟨#[105, 102]⟩ = false) (hs3 : isOf 1 (tk E i c) ⟨#[119, 104, 105, 108, 101]⟩ = false) (hs4 : isOf 1 (tk E i c) ⟨#[100, 111]⟩ = false) (hs5 : isOf 1 (tk E i c) ⟨#[102, 97, 105, 108]⟩ = true) (hfb : ((tk E i c).t.toList == [102, 97, 105, 108]) = false) : Calls Try.prog 25 #[pt E.pb 0] w (NPost E i c w) := by
  obtain ⟨rfl, hi0, hw0⟩ := isOf_tok (by decide) hs5
  have hsf := store_f
  have hlt := h.lt
  have hfew := h.ok.few
  have hilen := h.len
  have hL0 := (h.alloc (.cells row0 25)).look
  have hR : (w.alloc (.cells row0 25)).heap[w.heap.size]? = some (.cells row0 25) := heap_alloc_new w _
  have hg : w.heap.size ≠ E.pb := by omega
  have ht := hL0.t
  go_enter Try.func25, Try.ntmps25
  go_wp2_with (first
    | (go_at_call 24; refine Calls.mono ht ?_; rintro e w1 ⟨rfl, hL, hK⟩; clear ht; have hs1 := hK.size; have hgl := hL.st.choose_spec.2.lt; replace hR := row_past (row_past (row_on hR hK hg) (.cells #[.int .i64 (tk E i 0).k, .string (tk E i 0).t, .float .f64 (tk E i 0).x, .int .i64 (tk E i 0).a] 68)) (.cells #[.int .i64 0, .string ⟨#[]⟩, .float .f64 0, .slice none 0 0, .int .i64 (tk E i 0).a] 25); have hT := row_past (heap_alloc_new w1 (.cells #[.int .i64 (tk E i 0).k, .string (tk E i 0).t, .float .f64 (tk E i 0).x, .int .i64 (tk E i 0).a] 68)) (.cells #[.int .i64 0, .string ⟨#[]⟩, .float .f64 0, .slice none 0 0, .int .i64 (tk E i 0).a] 25); have hX := heap_alloc_new (w1.alloc (.cells #[.int .i64 (tk E i 0).k, .string (tk E i 0).t, .float .f64 (tk E i 0).x, .int .i64 (tk E i 0).a] 68)) (.cells #[.int .i64 0, .string ⟨#[]⟩, .float .f64 0, .slice none 0 0, .int .i64 (tk E i 0).a] 25); rw [World.size_alloc] at hX; have hg1 : w1.heap.size ≠ E.pb := (by omega); have hg2 : w1.heap.size + 1 ≠ E.pb := (by omega); have hw1 : w.heap.size < w1.heap.size := (by rw [World.size_alloc] at hs1; omega); have hE := (((kp_alloc w (.cells row0 25)).weak.trans hK).alloc (.cells #[.int .i64 (tk E i 0).k, .string (tk E i 0).t, .float .f64 (tk E i 0).x, .int .i64 (tk E i 0).a] 68)).alloc (.cells #[.int .i64 0, .string ⟨#[]⟩, .float .f64 0, .slice none 0 0, .int .i64 (tk E i 0).a] 25); replace hL := hL.kp ((kp_alloc w1 (.cells #[.int .i64 (tk E i 0).k, .string (tk E i 0).t, .float .f64 (tk E i 0).x, .int .i64 (tk E i 0).a] 68)).alloc (.cells #[.int .i64 0, .string ⟨#[]⟩, .float .f64 0, .slice none 0 0, .int .i64 (tk E i 0).a] 25)); obtain ⟨⟨p0, p1, p2, p3⟩, z0, z1, z2, z3⟩ := row4 hT)
    | (go_at_call 32; refine Calls.mono (hL.word _) ?_; rintro e w2 ⟨rfl, hL2, hK⟩; replace hL := hL2; replace hE := hE.trans hK; replace hR := row_on hR hK hg; replace hT := row_on hT hK hg1; replace hX := row_on hX hK hg2; obtain ⟨⟨x0, x1, x2, x3, x4⟩, v0, v1, v2, v3, v4⟩ := row5 hX; obtain ⟨⟨p0, p1, p2, p3⟩, z0, z1, z2, z3⟩ := row4 hT; clear hL2 hK; have hS := hL.live rfl hi0; obtain ⟨a0, l, b0, d, hblk⟩ := hS.blk; have hbl := hS.lt; have c1 := cell_of hblk 1 (.int .i64 i) rfl; have zf := frozen_of hblk 1; clear hblk)
    | (go_at_call 35; have hM := hS.moved hi0; have hq1 := kp_set1 w2 E.pb 1 (.int .i64 (i + 1)); replace hE := hE.trans hq1; replace hR := row_on hR hq1 hg; replace hX := row_on hX hq1 hg2; replace hT := row_on hT hq1 hg1; replace hM := St.own h hM (kp_set1 _ (w1.heap.size + 1) 0 (.int .i64 12)) (by omega); replace hE := hE.own (kp_set1 _ (w1.heap.size + 1) 0 (.int .i64 12)) (by omega); replace hR := row_on hR (kp_set1 _ (w1.heap.size + 1) 0 (.int .i64 12)) (by omega); replace hT := row_on hT (kp_set1 _ (w1.heap.size + 1) 0 (.int .i64 12)) (by omega); replace hX := row5_set0 hX (.int .i64 12); have hE6 := hE; have hb6 := blk_lt hX; have hr6 := blk_lt hR; have hl6 := hM.lt; refine Calls.mono ((pexpr_any E (i + 1)).at hM.look) ?_; rintro e w7 ⟨nd, k, t, x, ao, n, cp, a, i7, c7, rfl, hn, hok, hst7, hK7, hi7, hz7⟩; replace hE := hE.trans hK7; replace hR := row_on hR hK7 hg; replace hX := row_on hX hK7 hg2; obtain ⟨⟨x0, x1, x2, x3, x4⟩, v0, v1, v2, v3, v4⟩ := row5 hX; have hs7 := hK7.size; have hbx7 := blk_lt hX; have hq7 := kp_set1 w7 (w1.heap.size + 1) 3 (.slice (some ⟨w7.heap.size, 0, none⟩) 1 1); have hM7 := (St.own h hst7 hq7 (by omega)).alloc (.cells #[.int .i64 k, .string t, .float .f64 x, .slice ao n cp, .int .i64 a] 25); replace hE := (hE.own hq7 (by omega)).alloc (.cells #[.int .i64 k, .string t, .float .f64 x, .slice ao n cp, .int .i64 a] 25); replace hR := row_past (row_on hR hq7 (by omega)) (.cells #[.int .i64 k, .string t, .float .f64 x, .slice ao n cp, .int .i64 a] 25); replace hX := row_past (row5_set3 hX (.slice (some ⟨w7.heap.size, 0, none⟩) 1 1)) (.cells #[.int .i64 k, .string t, .float .f64 x, .slice ao n cp, .int .i64 a] 25); have hG := heap_alloc_new (w7.setCell ⟨w1.heap.size + 1, 3, none⟩ (.slice (some ⟨w7.heap.size, 0, none⟩) 1 1)) (.cells #[.int .i64 k, .string t, .float .f64 x, .slice ao n cp, .int .i64 a] 25); rw [sc_size] at hG)
    | (go_at_call 34; refine Calls.mono (must_any E i7 c7 ⟨#[59]⟩ _ hM7) ?_; rintro e w9 ⟨rfl, hmp9⟩; obtain ⟨i9, c9, hst9, hi9, hz9⟩ := hmp9.some; replace hE := hE.trans hmp9.1; replace hR := row_on hR hmp9.1 hg; replace hX := row_on hX hmp9.1 hg2; replace hG := row_on hG hmp9.1 (by omega); obtain ⟨⟨x0, x1, x2, x3, x4⟩, v0, v1, v2, v3, v4⟩ := row5 hX; obtain ⟨⟨r0, r1, r2, r3, r4⟩, y0, y1, y2, y3, y4⟩ := row5 hR))
  have hk5 := kp_sets5 w9 w.heap.size (.int .i64 12) (.string ⟨#[]⟩) (.float .f64 0) (.slice (some ⟨w7.heap.size, 0, none⟩) 1 1) (.int .i64 (tk E i 0).a)
  have hkid := kid_end (w := w) (g := w7.heap.size) hn (((((hq7.imp (fun _ e => by omega)).alloc (.cells #[.int .i64 k, .string t, .float .f64 x, .slice ao n cp, .int .i64 a] 25)).trans (hmp9.1.imp (fun _ e => by omega))).trans (hk5.imp (fun _ e => by omega)))) (row_on hG hk5 (by omega)) hE6.size (by omega)
  have hle9 := tws_le E hi9
  have ez : (⟨#[]⟩ : ByteArray).size = 0 := rfl
  exact end5 rfl (sets5_row hR) rfl ⟨.mk 12 ⟨#[]⟩ 0 [nd] (tk E i 0).a, _, i9, c9, rfl, ⟨_, rfl, .inr ⟨_, 0, 1, rfl, Nat.le_refl _, by unfold maxLen; omega⟩, hkid⟩, ⟨by decide, hok, trivial⟩, St.own h hst9 hk5 (Nat.le_refl _), hE.own hk5 (Nat.le_refl _), by omega, fun e => by
    obtain ⟨h1, h2, h3⟩ := hz7 (hz9 e)
    refine ⟨rfl, by omega, ?_⟩
    simp only [Nd.wt, wtL]
    omega⟩
set_option maxHeartbeats 8000000 in
set_option maxRecDepth 100000 in
theorem pstmt_fail2 (E : Env) (i : Nat) (c : Int) (w : World) (h : St E w i c) (hs1 : isOf 1 (tk E i c) ⟨#[115, 101, 116]⟩ = false) (hs2 : isOf 1 (tk E i c) ⟨#[105, 102]⟩ = false) (hs3 : isOf 1 (tk E i c) ⟨#[119, 104, 105, 108, 101]⟩ = false) (hs4 : isOf 1 (tk E i c) ⟨#[100, 111]⟩ = false) (hs5 : isOf 1 (tk E i c) ⟨#[102, 97, 105, 108]⟩ = true) (hfb : ((tk E i c).t.toList == [102, 97, 105, 108]) = true) : Calls Try.prog 25 #[pt E.pb 0] w (NPost E i c w) := by
  obtain ⟨rfl, hi0, hw0⟩ := isOf_tok (by decide) hs5
  have hsf := store_f
  have hlt := h.lt
  have hfew := h.ok.few
  have hilen := h.len
  have hL0 := (h.alloc (.cells row0 25)).look
  have hR : (w.alloc (.cells row0 25)).heap[w.heap.size]? = some (.cells row0 25) := heap_alloc_new w _
  have hg : w.heap.size ≠ E.pb := by omega
  have ht := hL0.t
  go_enter Try.func25, Try.ntmps25
  go_wp2_with (first
    | (go_at_call 24; refine Calls.mono ht ?_; rintro e w1 ⟨rfl, hL, hK⟩; clear ht; have hs1 := hK.size; have hgl := hL.st.choose_spec.2.lt; replace hR := row_past (row_past (row_on hR hK hg) (.cells #[.int .i64 (tk E i 0).k, .string (tk E i 0).t, .float .f64 (tk E i 0).x, .int .i64 (tk E i 0).a] 68)) (.cells #[.int .i64 0, .string ⟨#[]⟩, .float .f64 0, .slice none 0 0, .int .i64 (tk E i 0).a] 25); have hT := row_past (heap_alloc_new w1 (.cells #[.int .i64 (tk E i 0).k, .string (tk E i 0).t, .float .f64 (tk E i 0).x, .int .i64 (tk E i 0).a] 68)) (.cells #[.int .i64 0, .string ⟨#[]⟩, .float .f64 0, .slice none 0 0, .int .i64 (tk E i 0).a] 25); have hX := heap_alloc_new (w1.alloc (.cells #[.int .i64 (tk E i 0).k, .string (tk E i 0).t, .float .f64 (tk E i 0).x, .int .i64 (tk E i 0).a] 68)) (.cells #[.int .i64 0, .string ⟨#[]⟩, .float .f64 0, .slice none 0 0, .int .i64 (tk E i 0).a] 25); rw [World.size_alloc] at hX; have hg1 : w1.heap.size ≠ E.pb := (by omega); have hg2 : w1.heap.size + 1 ≠ E.pb := (by omega); have hw1 : w.heap.size < w1.heap.size := (by rw [World.size_alloc] at hs1; omega); have hE := (((kp_alloc w (.cells row0 25)).weak.trans hK).alloc (.cells #[.int .i64 (tk E i 0).k, .string (tk E i 0).t, .float .f64 (tk E i 0).x, .int .i64 (tk E i 0).a] 68)).alloc (.cells #[.int .i64 0, .string ⟨#[]⟩, .float .f64 0, .slice none 0 0, .int .i64 (tk E i 0).a] 25); replace hL := hL.kp ((kp_alloc w1 (.cells #[.int .i64 (tk E i 0).k, .string (tk E i 0).t, .float .f64 (tk E i 0).x, .int .i64 (tk E i 0).a] 68)).alloc (.cells #[.int .i64 0, .string ⟨#[]⟩, .float .f64 0, .slice none 0 0, .int .i64 (tk E i 0).a] 25)); obtain ⟨⟨p0, p1, p2, p3⟩, z0, z1, z2, z3⟩ := row4 hT)
    | (go_at_call 32; refine Calls.mono (hL.word _) ?_; rintro e w2 ⟨rfl, hL2, hK⟩; replace hL := hL2; replace hE := hE.trans hK; replace hR := row_on hR hK hg; replace hT := row_on hT hK hg1; replace hX := row_on hX hK hg2; obtain ⟨⟨x0, x1, x2, x3, x4⟩, v0, v1, v2, v3, v4⟩ := row5 hX; obtain ⟨⟨p0, p1, p2, p3⟩, z0, z1, z2, z3⟩ := row4 hT; clear hL2 hK; have hS := hL.live rfl hi0; obtain ⟨a0, l, b0, d, hblk⟩ := hS.blk; have hbl := hS.lt; have c1 := cell_of hblk 1 (.int .i64 i) rfl; have zf := frozen_of hblk 1; clear hblk)
    | (go_at_call 35; have hM := hS.moved hi0; have hq1 := kp_set1 w2 E.pb 1 (.int .i64 (i + 1)); replace hE := hE.trans hq1; replace hR := row_on hR hq1 hg; replace hX := row_on hX hq1 hg2; replace hT := row_on hT hq1 hg1; replace hM := St.own h hM (kp_set1 _ (w1.heap.size + 1) 0 (.int .i64 12)) (by omega); replace hE := hE.own (kp_set1 _ (w1.heap.size + 1) 0 (.int .i64 12)) (by omega); replace hR := row_on hR (kp_set1 _ (w1.heap.size + 1) 0 (.int .i64 12)) (by omega); replace hT := row_on hT (kp_set1 _ (w1.heap.size + 1) 0 (.int .i64 12)) (by omega); replace hX := row5_set0 hX (.int .i64 12); replace hM := St.own h hM (kp_set1 _ (w1.heap.size + 1) 0 (.int .i64 13)) (by omega); replace hE := hE.own (kp_set1 _ (w1.heap.size + 1) 0 (.int .i64 13)) (by omega); replace hR := row_on hR (kp_set1 _ (w1.heap.size + 1) 0 (.int .i64 13)) (by omega); replace hT := row_on hT (kp_set1 _ (w1.heap.size + 1) 0 (.int .i64 13)) (by omega); replace hX := row5_set0 hX (.int .i64 13); have hE6 := hE; have hb6 := blk_lt hX; have hr6 := blk_lt hR; have hl6 := hM.lt; refine Calls.mono ((pexpr_any E (i + 1)).at hM.look) ?_; rintro e w7 ⟨nd, k, t, x, ao, n, cp, a, i7, c7, rfl, hn, hok, hst7, hK7, hi7, hz7⟩; replace hE := hE.trans hK7; replace hR := row_on hR hK7 hg; replace hX := row_on hX hK7 hg2; obtain ⟨⟨x0, x1, x2, x3, x4⟩, v0, v1, v2, v3, v4⟩ := row5 hX; have hs7 := hK7.size; have hbx7 := blk_lt hX; have hq7 := kp_set1 w7 (w1.heap.size + 1) 3 (.slice (some ⟨w7.heap.size, 0, none⟩) 1 1); have hM7 := (St.own h hst7 hq7 (by omega)).alloc (.cells #[.int .i64 k, .string t, .float .f64 x, .slice ao n cp, .int .i64 a] 25); replace hE := (hE.own hq7 (by omega)).alloc (.cells #[.int .i64 k, .string t, .float .f64 x, .slice ao n cp, .int .i64 a] 25); replace hR := row_past (row_on hR hq7 (by omega)) (.cells #[.int .i64 k, .string t, .float .f64 x, .slice ao n cp, .int .i64 a] 25); replace hX := row_past (row5_set3 hX (.slice (some ⟨w7.heap.size, 0, none⟩) 1 1)) (.cells #[.int .i64 k, .string t, .float .f64 x, .slice ao n cp, .int .i64 a] 25); have hG := heap_alloc_new (w7.setCell ⟨w1.heap.size + 1, 3, none⟩ (.slice (some ⟨w7.heap.size, 0, none⟩) 1 1)) (.cells #[.int .i64 k, .string t, .float .f64 x, .slice ao n cp, .int .i64 a] 25); rw [sc_size] at hG)
    | (go_at_call 34; refine Calls.mono (must_any E i7 c7 ⟨#[59]⟩ _ hM7) ?_; rintro e w9 ⟨rfl, hmp9⟩; obtain ⟨i9, c9, hst9, hi9, hz9⟩ := hmp9.some; replace hE := hE.trans hmp9.1; replace hR := row_on hR hmp9.1 hg; replace hX := row_on hX hmp9.1 hg2; replace hG := row_on hG hmp9.1 (by omega); obtain ⟨⟨x0, x1, x2, x3, x4⟩, v0, v1, v2, v3, v4⟩ := row5 hX; obtain ⟨⟨r0, r1, r2, r3, r4⟩, y0, y1, y2, y3, y4⟩ := row5 hR))
  have hk5 := kp_sets5 w9 w.heap.size (.int .i64 13) (.string ⟨#[]⟩) (.float .f64 0) (.slice (some ⟨w7.heap.size, 0, none⟩) 1 1) (.int .i64 (tk E i 0).a)
  have hkid := kid_end (w := w) (g := w7.heap.size) hn (((((hq7.imp (fun _ e => by omega)).alloc (.cells #[.int .i64 k, .string t, .float .f64 x, .slice ao n cp, .int .i64 a] 25)).trans (hmp9.1.imp (fun _ e => by omega))).trans (hk5.imp (fun _ e => by omega)))) (row_on hG hk5 (by omega)) hE6.size (by omega)
  have hle9 := tws_le E hi9
  have ez : (⟨#[]⟩ : ByteArray).size = 0 := rfl
  exact end5 rfl (sets5_row hR) rfl ⟨.mk 13 ⟨#[]⟩ 0 [nd] (tk E i 0).a, _, i9, c9, rfl, ⟨_, rfl, .inr ⟨_, 0, 1, rfl, Nat.le_refl _, by unfold maxLen; omega⟩, hkid⟩, ⟨by decide, hok, trivial⟩, St.own h hst9 hk5 (Nat.le_refl _), hE.own hk5 (Nat.le_refl _), by omega, fun e => by
    obtain ⟨h1, h2, h3⟩ := hz7 (hz9 e)
    refine ⟨rfl, by omega, ?_⟩
    simp only [Nd.wt, wtL]
    omega⟩
set_option maxHeartbeats 8000000 in
set_option maxRecDepth 100000 in
theorem pstmt_none (E : Env) (i : Nat) (c : Int) (w : World) (h : St E w i c) (hs1 : isOf 1 (tk E i c) ⟨#[115, 101, 116]⟩ = false) (hs2 : isOf 1 (tk E i c) ⟨#[105, 102]⟩ = false) (hs3 : isOf 1 (tk E i c) ⟨#[119, 104, 105, 108, 101]⟩ = false) (hs4 : isOf 1 (tk E i c) ⟨#[100, 111]⟩ = false) (hs5 : isOf 1 (tk E i c) ⟨#[102, 97, 105, 108]⟩ = false) : Calls Try.prog 25 #[pt E.pb 0] w (NPost E i c w) := by
  have hsf := store_f
  have hlt := h.lt
  have hfew := h.ok.few
  have hilen := h.len
  have hL0 := (h.alloc (.cells row0 25)).look
  have hR : (w.alloc (.cells row0 25)).heap[w.heap.size]? = some (.cells row0 25) := heap_alloc_new w _
  have hg : w.heap.size ≠ E.pb := by omega
  have ht := hL0.t
  go_enter Try.func25, Try.ntmps25
  go_wp2_with (first
    | (go_at_call 24; refine Calls.mono ht ?_; rintro e w1 ⟨rfl, hL, hK⟩; clear ht; have hs1 := hK.size; have hgl := hL.st.choose_spec.2.lt; replace hR := row_past (row_past (row_on hR hK hg) (.cells #[.int .i64 (tk E i c).k, .string (tk E i c).t, .float .f64 (tk E i c).x, .int .i64 (tk E i c).a] 68)) (.cells #[.int .i64 0, .string ⟨#[]⟩, .float .f64 0, .slice none 0 0, .int .i64 (tk E i c).a] 25); have hT := row_past (heap_alloc_new w1 (.cells #[.int .i64 (tk E i c).k, .string (tk E i c).t, .float .f64 (tk E i c).x, .int .i64 (tk E i c).a] 68)) (.cells #[.int .i64 0, .string ⟨#[]⟩, .float .f64 0, .slice none 0 0, .int .i64 (tk E i c).a] 25); have hX := heap_alloc_new (w1.alloc (.cells #[.int .i64 (tk E i c).k, .string (tk E i c).t, .float .f64 (tk E i c).x, .int .i64 (tk E i c).a] 68)) (.cells #[.int .i64 0, .string ⟨#[]⟩, .float .f64 0, .slice none 0 0, .int .i64 (tk E i c).a] 25); rw [World.size_alloc] at hX; have hg1 : w1.heap.size ≠ E.pb := (by omega); have hg2 : w1.heap.size + 1 ≠ E.pb := (by omega); have hw1 : w.heap.size < w1.heap.size := (by rw [World.size_alloc] at hs1; omega); have hE := (((kp_alloc w (.cells row0 25)).weak.trans hK).alloc (.cells #[.int .i64 (tk E i c).k, .string (tk E i c).t, .float .f64 (tk E i c).x, .int .i64 (tk E i c).a] 68)).alloc (.cells #[.int .i64 0, .string ⟨#[]⟩, .float .f64 0, .slice none 0 0, .int .i64 (tk E i c).a] 25); replace hL := hL.kp ((kp_alloc w1 (.cells #[.int .i64 (tk E i c).k, .string (tk E i c).t, .float .f64 (tk E i c).x, .int .i64 (tk E i c).a] 68)).alloc (.cells #[.int .i64 0, .string ⟨#[]⟩, .float .f64 0, .slice none 0 0, .int .i64 (tk E i c).a] 25)); obtain ⟨⟨p0, p1, p2, p3⟩, z0, z1, z2, z3⟩ := row4 hT)
    | (go_at_call 32; refine Calls.mono (hL.word _) ?_; rintro e w2 ⟨rfl, hL2, hK⟩; replace hL := hL2; replace hE := hE.trans hK; replace hR := row_on hR hK hg; replace hT := row_on hT hK hg1; replace hX := row_on hX hK hg2; obtain ⟨⟨x0, x1, x2, x3, x4⟩, v0, v1, v2, v3, v4⟩ := row5 hX; obtain ⟨⟨p0, p1, p2, p3⟩, z0, z1, z2, z3⟩ := row4 hT; clear hL2 hK)
    | (go_at_call 37; refine Calls.mono hL.wrong ?_; rintro e w7 ⟨rfl, hD⟩; have hK := hD.ke; replace hE := hE.trans hK; replace hR := row_on hR hK hg; replace hX := row_on hX hK hg2; obtain ⟨⟨x0, x1, x2, x3, x4⟩, v0, v1, v2, v3, v4⟩ := row5 hX; obtain ⟨⟨r0, r1, r2, r3, r4⟩, y0, y1, y2, y3, y4⟩ := row5 hR; replace hD := hD.st))
  obtain ⟨c', hc', hst'⟩ := hD
  have hk5 := kp_sets5 w7 w.heap.size (.int .i64 0) (.string ⟨#[]⟩) (.float .f64 0) (.slice none 0 0) (.int .i64 (tk E i c).a)
  exact end5 rfl (sets5_row hR) rfl ⟨.mk 0 ⟨#[]⟩ 0 [] (tk E i c).a, _, i, c', rfl, ⟨_, rfl, .inl ⟨rfl, none, 0, rfl, Nat.zero_le _⟩, trivial⟩, ⟨by decide, trivial⟩, St.own h hst' hk5 (Nat.le_refl _), hE.own hk5 (Nat.le_refl _), Nat.le_refl _, fun e => absurd e hc'⟩
end Go.Proofs.Ytfkgfibmhhlemaa
namespace Go.Proofs.Ytfkgfibmhhlemaa
open Go.RowKit Go.Maps Go.WideMaps
set_option maxHeartbeats 8000000 in
set_option maxRecDepth 100000 in
theorem pstmt_while (E : Env) (i : Nat) (hbk : ∀ j, i < j → NOk 36 E j) (c : Int) (w : World) (h : St E w i c) (hs1 : isOf 1 (tk E i c) ⟨#[115, 101, 116]⟩ = false) (hs2 : isOf 1 (tk E i c) ⟨#[105, 102]⟩ = false) (hs3 : isOf 1 (tk E i c) ⟨#[119, 104, 105, 108, 101]⟩ = true) : Calls Try.prog 25 #[pt E.pb 0] w (NPost E i c w) := by
  obtain ⟨rfl, hi0, hw0⟩ := isOf_tok (by decide) hs3
  have hsf := store_f
  have hlt := h.lt
  have hfew := h.ok.few
  have hilen := h.len
  have hL0 := (h.alloc (.cells row0 25)).look
  have hR : (w.alloc (.cells row0 25)).heap[w.heap.size]? = some (.cells row0 25) := heap_alloc_new w _
  have hg : w.heap.size ≠ E.pb := by omega
  have ht := hL0.t
  go_enter Try.func25, Try.ntmps25
  go_wp2_with (first
    | (go_at_call 24; refine Calls.mono ht ?_; rintro e w1 ⟨rfl, hL, hK⟩; clear ht; have hs1 := hK.size; have hgl := hL.st.choose_spec.2.lt; replace hR := row_past (row_past (row_on hR hK hg) (.cells #[.int .i64 (tk E i 0).k, .string (tk E i 0).t, .float .f64 (tk E i 0).x, .int .i64 (tk E i 0).a] 68)) (.cells #[.int .i64 0, .string ⟨#[]⟩, .float .f64 0, .slice none 0 0, .int .i64 (tk E i 0).a] 25); have hT := row_past (heap_alloc_new w1 (.cells #[.int .i64 (tk E i 0).k, .string (tk E i 0).t, .float .f64 (tk E i 0).x, .int .i64 (tk E i 0).a] 68)) (.cells #[.int .i64 0, .string ⟨#[]⟩, .float .f64 0, .slice none 0 0, .int .i64 (tk E i 0).a] 25); have hX := heap_alloc_new (w1.alloc (.cells #[.int .i64 (tk E i 0).k, .string (tk E i 0).t, .float .f64 (tk E i 0).x, .int .i64 (tk E i 0).a] 68)) (.cells #[.int .i64 0, .string ⟨#[]⟩, .float .f64 0, .slice none 0 0, .int .i64 (tk E i 0).a] 25); rw [World.size_alloc] at hX; have hg1 : w1.heap.size ≠ E.pb := (by omega); have hg2 : w1.heap.size + 1 ≠ E.pb := (by omega); have hw1 : w.heap.size < w1.heap.size := (by rw [World.size_alloc] at hs1; omega); have hE := (((kp_alloc w (.cells row0 25)).weak.trans hK).alloc (.cells #[.int .i64 (tk E i 0).k, .string (tk E i 0).t, .float .f64 (tk E i 0).x, .int .i64 (tk E i 0).a] 68)).alloc (.cells #[.int .i64 0, .string ⟨#[]⟩, .float .f64 0, .slice none 0 0, .int .i64 (tk E i 0).a] 25); replace hL := hL.kp ((kp_alloc w1 (.cells #[.int .i64 (tk E i 0).k, .string (tk E i 0).t, .float .f64 (tk E i 0).x, .int .i64 (tk E i 0).a] 68)).alloc (.cells #[.int .i64 0, .string ⟨#[]⟩, .float .f64 0, .slice none 0 0, .int .i64 (tk E i 0).a] 25)); obtain ⟨⟨p0, p1, p2, p3⟩, z0, z1, z2, z3⟩ := row4 hT)
    | (go_at_call 32; refine Calls.mono (hL.word _) ?_; rintro e w2 ⟨rfl, hL2, hK⟩; replace hL := hL2; replace hE := hE.trans hK; replace hR := row_on hR hK hg; replace hT := row_on hT hK hg1; replace hX := row_on hX hK hg2; obtain ⟨⟨x0, x1, x2, x3, x4⟩, v0, v1, v2, v3, v4⟩ := row5 hX; obtain ⟨⟨p0, p1, p2, p3⟩, z0, z1, z2, z3⟩ := row4 hT; clear hL2 hK; have hS := hL.live rfl hi0; obtain ⟨a0, l, b0, d, hblk⟩ := hS.blk; have hbl := hS.lt; have c1 := cell_of hblk 1 (.int .i64 i) rfl; have zf := frozen_of hblk 1; clear hblk)
    | (go_at_call 35; have hM := hS.moved hi0; have hq1 := kp_set1 w2 E.pb 1 (.int .i64 (i + 1)); replace hE := hE.trans hq1; replace hR := row_on hR hq1 hg; replace hX := row_on hX hq1 hg2; replace hT := row_on hT hq1 hg1; replace hM := St.own h hM (kp_set1 _ (w1.heap.size + 1) 0 (.int .i64 11)) (by omega); replace hE := hE.own (kp_set1 _ (w1.heap.size + 1) 0 (.int .i64 11)) (by omega); replace hR := row_on hR (kp_set1 _ (w1.heap.size + 1) 0 (.int .i64 11)) (by omega); replace hT := row_on hT (kp_set1 _ (w1.heap.size + 1) 0 (.int .i64 11)) (by omega); replace hX := row5_set0 hX (.int .i64 11); have hE6 := hE; have hb6 := blk_lt hX; have hr6 := blk_lt hR; have hl6 := hM.lt; refine Calls.mono ((pexpr_any E (i + 1)).at hM.look) ?_; rintro e w7 ⟨nd, k, t, x, ao, n, cp, a, i7, c7, rfl, hn, hok, hst7, hK7, hi7, hz7⟩; have hE7 := (hE.trans hK7).alloc (.cells #[.int .i64 k, .string t, .float .f64 x, .slice ao n cp, .int .i64 a] 25); replace hR := row_past (row_on hR hK7 hg) (.cells #[.int .i64 k, .string t, .float .f64 x, .slice ao n cp, .int .i64 a] 25); replace hX := row_past (row_on hX hK7 hg2) (.cells #[.int .i64 k, .string t, .float .f64 x, .slice ao n cp, .int .i64 a] 25); have hY := heap_alloc_new w7 (.cells #[.int .i64 k, .string t, .float .f64 x, .slice ao n cp, .int .i64 a] 25); have hs7 := hK7.size; have hM7 := hst7.alloc (.cells #[.int .i64 k, .string t, .float .f64 x, .slice ao n cp, .int .i64 a] 25)))
  rw [sc_size, sc_size] at hb6 hr6 hs7
  have hg7 : w7.heap.size ≠ E.pb := by have := hst7.lt; omega
  have hr7 := blk_lt hR
  have hb7 := blk_lt hX
  have hy7 := blk_lt hY
  generalize hW : w7.alloc (.cells #[.int .i64 k, .string t, .float .f64 x, .slice ao n cp, .int .i64 a] 25) = W at hE7 hR hX hY hM7 hr7 hb7 hy7 ⊢
  obtain ⟨⟨q0, q1, q2, q3, q4⟩, _, _, _, _, _⟩ := row5 hY
  have hcall := (hbk i7 (by omega)).at hM7.drew.look
  go_region_with (go_at_call 36; refine Calls.mono hcall ?_; rintro e w8 ⟨nd2, k2, t2, x2, ao2, n2, cp2, a2, i8, c8, rfl, hn2, hok2, hst8, hK8, hi8, hz8⟩; have hK8' : Ke E W w8 := ⟨hK8.os, hK8.tape, hK8.output, hK8.size, hK8.block⟩; have hX8 := row_on hX hK8' hg2; have hY8 := row_on hY hK8' hg7; have hR8 := row_on hR hK8' hg; have hr8 := blk_lt hR8; have hb8 := blk_lt hX8; have hy8 := blk_lt hY8; obtain ⟨⟨x0, x1, x2', x3, x4⟩, v0, v1, v2, v3, v4⟩ := row5 hX8; obtain ⟨⟨o0, o1, o2, o3, o4⟩, _, _, _, _, _⟩ := row5 hY8; obtain ⟨⟨r0, r1, r2, r3, r4⟩, y0, y1, y2, y3, y4⟩ := row5 hR8)
  all_goals
    go_wp2_with fail
    have hq8 := kp_set1 w8 (w1.heap.size + 1) 3 (.slice (some ⟨w8.heap.size, 0, none⟩) 2 2)
    have hk5 := kp_sets5 (w8.setCell ⟨w1.heap.size + 1, 3, none⟩ (.slice (some ⟨w8.heap.size, 0, none⟩) 2 2)) w.heap.size (.int .i64 11) (.string ⟨#[]⟩) (.float .f64 0) (.slice (some ⟨w8.heap.size, 0, none⟩) 2 2) (.int .i64 (tk E i 0).a)
    have hWs : W.heap.size = w7.heap.size + 1 := by rw [← hW]; simp
    have hs8 := hK8'.size
    have hq78 : Kp (fun j => j < w2.heap.size) w7 w8 := by
      have hW' : Kp (fun j => j < w2.heap.size) w7 W := by rw [← hW]; exact (kp_alloc w7 _).weak
      exact hW'.trans (hK8'.imp (fun _ e => by omega))
    have hall : Kp (fun j => j < w2.heap.size) w8 ((sets5 (w8.setCell ⟨w1.heap.size + 1, 3, none⟩ (.slice (some ⟨w8.heap.size, 0, none⟩) 2 2)) w.heap.size (.int .i64 11) (.string ⟨#[]⟩) (.float .f64 0) (.slice (some ⟨w8.heap.size, 0, none⟩) 2 2) (.int .i64 (tk E i 0).a)).alloc (.cells #[.int .i64 k, .string t, .float .f64 x, .slice ao n cp, .int .i64 a, .int .i64 k2, .string t2, .float .f64 x2, .slice ao2 n2 cp2, .int .i64 a2] 25)) := ((hq8.imp (fun _ e => by omega)).trans (hk5.imp (fun _ e => by omega))).alloc _
    have hwi : w.heap.size ≤ w2.heap.size := by omega
    have hkid1 := hn.move (w := w) (((hq78.trans hall)).imp (fun _ e => by rw [sc_size, sc_size]; exact e)) (by rw [sc_size, sc_size]; exact hwi)
    have hkid2 := hn2.move (w := w) (hall.imp (fun _ e => by show _ < W.heap.size; omega)) (by show _ ≤ W.heap.size; omega)
    have hgrow := heap_alloc_new (sets5 (w8.setCell ⟨w1.heap.size + 1, 3, none⟩ (.slice (some ⟨w8.heap.size, 0, none⟩) 2 2)) w.heap.size (.int .i64 11) (.string ⟨#[]⟩) (.float .f64 0) (.slice (some ⟨w8.heap.size, 0, none⟩) 2 2) (.int .i64 (tk E i 0).a)) (.cells #[.int .i64 k, .string t, .float .f64 x, .slice ao n cp, .int .i64 a, .int .i64 k2, .string t2, .float .f64 x2, .slice ao2 n2 cp2, .int .i64 a2] 25)
    have hgz : (sets5 (w8.setCell ⟨w1.heap.size + 1, 3, none⟩ (.slice (some ⟨w8.heap.size, 0, none⟩) 2 2)) w.heap.size (.int .i64 11) (.string ⟨#[]⟩) (.float .f64 0) (.slice (some ⟨w8.heap.size, 0, none⟩) 2 2) (.int .i64 (tk E i 0).a)).heap.size = w8.heap.size := by simp [sets5]
    rw [hgz] at hgrow
    have hkids := two_kids hgrow (R := New w _) ⟨by omega, blk_lt hgrow⟩ hkid1 hkid2
    have hst9 := (St.own h (St.own h hst8 hq8 (by omega)) hk5 (Nat.le_refl _)).alloc (.cells #[.int .i64 k, .string t, .float .f64 x, .slice ao n cp, .int .i64 a, .int .i64 k2, .string t2, .float .f64 x2, .slice ao2 n2 cp2, .int .i64 a2] 25)
    have hE9 := (((hE7.trans hK8').own hq8 (by omega)).own hk5 (Nat.le_refl _)).alloc (.cells #[.int .i64 k, .string t, .float .f64 x, .slice ao n cp, .int .i64 a, .int .i64 k2, .string t2, .float .f64 x2, .slice ao2 n2 cp2, .int .i64 a2] 25)
    have hle8 := tws_le E hi8
    have ez : (⟨#[]⟩ : ByteArray).size = 0 := rfl
    exact end5 rfl (row_past (sets5_row (row_on hR8 hq8 (by omega))) _) rfl ⟨.mk 11 ⟨#[]⟩ 0 [nd, nd2] (tk E i 0).a, _, i8, c8, rfl, ⟨_, rfl, .inr ⟨_, 0, 2, rfl, Nat.le_refl _, by unfold maxLen; omega⟩, hkids⟩, ⟨by decide, hok, hok2, trivial⟩, hst9, hE9, by omega, fun e => by
      obtain ⟨h4, h5, h6⟩ := hz8 e
      obtain ⟨h1, h2, h3⟩ := hz7 h4
      refine ⟨rfl, by omega, ?_⟩
      simp only [Nd.wt, wtL]
      omega⟩
end Go.Proofs.Ytfkgfibmhhlemaa
namespace Go.Proofs.Ytfkgfibmhhlemaa
open Go.RowKit Go.Maps Go.WideMaps
theorem leaf0 (R : Nat → Prop) (u : World) (a : Int) : NodeAt R u (.mk 0 ⟨#[]⟩ 0 [] a) (.agg #[.int .i64 0, .string ⟨#[]⟩, .float .f64 0, .slice none 0 0, .int .i64 a]) := ⟨_, rfl, .inl ⟨rfl, none, 0, rfl, Nat.zero_le _⟩, trivial⟩
theorem NodeAt.move2 {w w3 w4 W : World} {nd : Nd} {V : Value} (hn : NodeAt (New w3 w4) w4 nd V) (hb : ∀ k, w3.heap.size ≤ k → k < w4.heap.size → W.heap[k]? = w4.heap[k]?) (h3 : w.heap.size ≤ w3.heap.size) (h4 : w4.heap.size ≤ W.heap.size) : NodeAt (New w W) W nd V :=
  (hn.kept (w' := W) fun k hk => hb k hk.1 hk.2).weak fun k hk => ⟨by omega, Nat.lt_of_lt_of_le hk.2 h4⟩
theorem three_kids {R : Nat → Prop} {u : World} {q : Nat} {n1 n2 n3 : Nd} {c0 c1 c2 c3 c4 d0 d1 d2 d3 d4 e0 e1 e2 e3 e4 : Value} (hg : u.heap[q]? = some (.cells #[c0, c1, c2, c3, c4, d0, d1, d2, d3, d4, e0, e1, e2, e3, e4] 25)) (hr : R q) (h1 : NodeAt R u n1 (.agg #[c0, c1, c2, c3, c4])) (h2 : NodeAt R u n2 (.agg #[d0, d1, d2, d3, d4])) (h3 : NodeAt R u n3 (.agg #[e0, e1, e2, e3, e4])) :
    KidsAt R u [n1, n2, n3] (.slice (some ⟨q, 0, none⟩) 3 3) 0 :=
  ⟨⟨c0, c1, c2, c3, c4, ⟨q, 0, 3, 3, rfl, hr, cell_of hg 0 _ rfl, cell_of hg 1 _ rfl, cell_of hg 2 _ rfl, cell_of hg 3 _ rfl, cell_of hg 4 _ rfl⟩, h1⟩,
    ⟨d0, d1, d2, d3, d4, ⟨q, 0, 3, 3, rfl, hr, cell_of hg 5 _ rfl, cell_of hg 6 _ rfl, cell_of hg 7 _ rfl, cell_of hg 8 _ rfl, cell_of hg 9 _ rfl⟩, h2⟩,
    ⟨e0, e1, e2, e3, e4, ⟨q, 0, 3, 3, rfl, hr, cell_of hg 10 _ rfl, cell_of hg 11 _ rfl, cell_of hg 12 _ rfl, cell_of hg 13 _ rfl, cell_of hg 14 _ rfl⟩, h3⟩, trivial⟩
set_option maxHeartbeats 8000000 in
set_option maxRecDepth 100000 in
theorem pstmt_if (E : Env) (i : Nat) (hbk : ∀ j, i < j → NOk 36 E j) (c : Int) (w : World) (h : St E w i c) (hs1 : isOf 1 (tk E i c) ⟨#[115, 101, 116]⟩ = false) (hs2 : isOf 1 (tk E i c) ⟨#[105, 102]⟩ = true) : Calls Try.prog 25 #[pt E.pb 0] w (NPost E i c w) := by
  obtain ⟨rfl, hi0, hw0⟩ := isOf_tok (by decide) hs2
  have hsz2 : 2 ≤ (tk E i 0).t.size := by
    unfold isOf at hs2
    have : (tk E i 0).t.toList = [105, 102] := by
      have h3 := (Bool.and_eq_true _ _ ▸ hs2 : _ ∧ _).2
      rw [beq_iff_eq] at h3
      rw [h3]; simp [ByteArray.toList_eq]
    have h2 := congrArg List.length this
    rw [ByteArray.toList_eq] at h2
    simp at h2
    have : (tk E i 0).t.size = (tk E i 0).t.data.size := rfl
    omega
  have hsf := store_f
  have hlt := h.lt
  have hfew := h.ok.few
  have hilen := h.len
  have hL0 := (h.alloc (.cells row0 25)).look
  have hR : (w.alloc (.cells row0 25)).heap[w.heap.size]? = some (.cells row0 25) := heap_alloc_new w _
  have hg : w.heap.size ≠ E.pb := by omega
  have ht := hL0.t
  have ez : (⟨#[]⟩ : ByteArray).size = 0 := rfl
  go_enter Try.func25, Try.ntmps25
  go_wp2_with (first
    | (go_at_call 24; have hgd := ht; clear hgd; refine Calls.mono ht ?_; rintro e w1 ⟨rfl, hL, hK⟩; clear ht; have hs1 := hK.size; have hgl := hL.st.choose_spec.2.lt; replace hR := row_past (row_past (row_on hR hK hg) (.cells #[.int .i64 (tk E i 0).k, .string (tk E i 0).t, .float .f64 (tk E i 0).x, .int .i64 (tk E i 0).a] 68)) (.cells #[.int .i64 0, .string ⟨#[]⟩, .float .f64 0, .slice none 0 0, .int .i64 (tk E i 0).a] 25); have hT := row_past (heap_alloc_new w1 (.cells #[.int .i64 (tk E i 0).k, .string (tk E i 0).t, .float .f64 (tk E i 0).x, .int .i64 (tk E i 0).a] 68)) (.cells #[.int .i64 0, .string ⟨#[]⟩, .float .f64 0, .slice none 0 0, .int .i64 (tk E i 0).a] 25); have hX := heap_alloc_new (w1.alloc (.cells #[.int .i64 (tk E i 0).k, .string (tk E i 0).t, .float .f64 (tk E i 0).x, .int .i64 (tk E i 0).a] 68)) (.cells #[.int .i64 0, .string ⟨#[]⟩, .float .f64 0, .slice none 0 0, .int .i64 (tk E i 0).a] 25); rw [World.size_alloc] at hX; have hg1 : w1.heap.size ≠ E.pb := (by omega); have hg2 : w1.heap.size + 1 ≠ E.pb := (by omega); have hw1 : w.heap.size < w1.heap.size := (by rw [World.size_alloc] at hs1; omega); have hE := (((kp_alloc w (.cells row0 25)).weak.trans hK).alloc (.cells #[.int .i64 (tk E i 0).k, .string (tk E i 0).t, .float .f64 (tk E i 0).x, .int .i64 (tk E i 0).a] 68)).alloc (.cells #[.int .i64 0, .string ⟨#[]⟩, .float .f64 0, .slice none 0 0, .int .i64 (tk E i 0).a] 25); replace hL := hL.kp ((kp_alloc w1 (.cells #[.int .i64 (tk E i 0).k, .string (tk E i 0).t, .float .f64 (tk E i 0).x, .int .i64 (tk E i 0).a] 68)).alloc (.cells #[.int .i64 0, .string ⟨#[]⟩, .float .f64 0, .slice none 0 0, .int .i64 (tk E i 0).a] 25)); obtain ⟨⟨p0, p1, p2, p3⟩, z0, z1, z2, z3⟩ := row4 hT)
    | (go_at_call 32; have hgd := hL; clear hgd; refine Calls.mono (hL.word _) ?_; rintro e w2 ⟨rfl, hL2, hK⟩; replace hL := hL2; replace hE := hE.trans hK; replace hR := row_on hR hK hg; replace hT := row_on hT hK hg1; replace hX := row_on hX hK hg2; obtain ⟨⟨x0, x1, x2, x3, x4⟩, v0, v1, v2, v3, v4⟩ := row5 hX; obtain ⟨⟨p0, p1, p2, p3⟩, z0, z1, z2, z3⟩ := row4 hT; clear hL2 hK; have hS := hL.live rfl hi0; obtain ⟨a0, l, b0, d, hblk⟩ := hS.blk; have hbl := hS.lt; have c1 := cell_of hblk 1 (.int .i64 i) rfl; have zf := frozen_of hblk 1; clear hblk)
    | (go_at_call 35; have hM := hS.moved hi0; have hq1 := kp_set1 w2 E.pb 1 (.int .i64 (i + 1)); replace hE := hE.trans hq1; replace hR := row_on hR hq1 hg; replace hX := row_on hX hq1 hg2; replace hT := row_on hT hq1 hg1; replace hM := St.own h hM (kp_set1 _ (w1.heap.size + 1) 0 (.int .i64 10)) (by omega); replace hE := hE.own (kp_set1 _ (w1.heap.size + 1) 0 (.int .i64 10)) (by omega); replace hR := row_on hR (kp_set1 _ (w1.heap.size + 1) 0 (.int .i64 10)) (by omega); replace hT := row_on hT (kp_set1 _ (w1.heap.size + 1) 0 (.int .i64 10)) (by omega); replace hX := row5_set0 hX (.int .i64 10); clear hL; have hb6 := blk_lt hX; have hr6 := blk_lt hR; have ht6 := blk_lt hT; have hl6 := hM.lt; refine Calls.mono ((pexpr_any E (i + 1)).at hM.look) ?_; rintro e w7 ⟨nd, k, t, x, ao, n, cp, a, i7, c7, rfl, hn, hok, hst7, hK7, hi7, hz7⟩; clear hM; replace hE := (hE.trans hK7).alloc (.cells #[.int .i64 k, .string t, .float .f64 x, .slice ao n cp, .int .i64 a] 25); replace hR := row_past (row_on hR hK7 hg) (.cells #[.int .i64 k, .string t, .float .f64 x, .slice ao n cp, .int .i64 a] 25); replace hX := row_past (row_on hX hK7 hg2) (.cells #[.int .i64 k, .string t, .float .f64 x, .slice ao n cp, .int .i64 a] 25); replace hT := row_past (row_on hT hK7 hg1) (.cells #[.int .i64 k, .string t, .float .f64 x, .slice ao n cp, .int .i64 a] 25); have hY := heap_alloc_new w7 (.cells #[.int .i64 k, .string t, .float .f64 x, .slice ao n cp, .int .i64 a] 25); have hs7 := hK7.size; have hgy : w7.heap.size ≠ E.pb := (by have := hst7.lt; omega); have hM7 := hst7.alloc (.cells #[.int .i64 k, .string t, .float .f64 x, .slice ao n cp, .int .i64 a] 25))
    | (go_at_call 36; have hgd := hM7; clear hgd; refine Calls.mono ((hbk i7 (by omega)).at hM7.look) ?_; rintro e w8 ⟨nd2, k', t', x', ao', n', cp', a', i8, c8, rfl, hn2, hok2, hst8, hK8, hi8, hz8⟩; clear hM7; have hs8 := hK8.size; replace hE := (hE.trans hK8).alloc (.cells #[.int .i64 k', .string t', .float .f64 x', .slice ao' n' cp', .int .i64 a'] 25); replace hE := hE.alloc (.cells #[.int .i64 0, .string ⟨#[]⟩, .float .f64 0, .slice none 0 0, .int .i64 (tk E i 0).a] 25); replace hR := row_past (row_past (row_on hR hK8 hg) (.cells #[.int .i64 k', .string t', .float .f64 x', .slice ao' n' cp', .int .i64 a'] 25)) (.cells #[.int .i64 0, .string ⟨#[]⟩, .float .f64 0, .slice none 0 0, .int .i64 (tk E i 0).a] 25); replace hX := row_past (row_past (row_on hX hK8 hg2) (.cells #[.int .i64 k', .string t', .float .f64 x', .slice ao' n' cp', .int .i64 a'] 25)) (.cells #[.int .i64 0, .string ⟨#[]⟩, .float .f64 0, .slice none 0 0, .int .i64 (tk E i 0).a] 25); have hT8 := row_on hT hK8 hg1; obtain ⟨⟨p0, p1, p2, p3⟩, z0, z1, z2, z3⟩ := row4 hT8; have ht8 := blk_lt hT8; replace hT := row_past (row_past hT8 (.cells #[.int .i64 k', .string t', .float .f64 x', .slice ao' n' cp', .int .i64 a'] 25)) (.cells #[.int .i64 0, .string ⟨#[]⟩, .float .f64 0, .slice none 0 0, .int .i64 (tk E i 0).a] 25); replace hY := row_past (row_past (row_on hY hK8 hgy) (.cells #[.int .i64 k', .string t', .float .f64 x', .slice ao' n' cp', .int .i64 a'] 25)) (.cells #[.int .i64 0, .string ⟨#[]⟩, .float .f64 0, .slice none 0 0, .int .i64 (tk E i 0).a] 25); have hZ := row_past (heap_alloc_new w8 (.cells #[.int .i64 k', .string t', .float .f64 x', .slice ao' n' cp', .int .i64 a'] 25)) (.cells #[.int .i64 0, .string ⟨#[]⟩, .float .f64 0, .slice none 0 0, .int .i64 (tk E i 0).a] 25); have hO := heap_alloc_new (w8.alloc (.cells #[.int .i64 k', .string t', .float .f64 x', .slice ao' n' cp', .int .i64 a'] 25)) (.cells #[.int .i64 0, .string ⟨#[]⟩, .float .f64 0, .slice none 0 0, .int .i64 (tk E i 0).a] 25); rw [World.size_alloc] at hO; have hgz' : w8.heap.size ≠ E.pb := (by have := hst8.lt; omega); have hgo : w8.heap.size + 1 ≠ E.pb := (by have := hst8.lt; omega); have hM8 := (hst8.alloc (.cells #[.int .i64 k', .string t', .float .f64 x', .slice ao' n' cp', .int .i64 a'] 25)).alloc (.cells #[.int .i64 0, .string ⟨#[]⟩, .float .f64 0, .slice none 0 0, .int .i64 (tk E i 0).a] 25))
    | (go_at_call 32; have hgd := hM8; clear hgd; refine Calls.mono (hM8.look.word _) ?_; rintro e w9 ⟨rfl, hL9, hK9⟩; obtain ⟨c9, hsm9, hst9⟩ := hL9.st; replace hE := hE.trans hK9; replace hR := row_on hR hK9 hg; replace hX := row_on hX hK9 hg2; replace hY := row_on hY hK9 hgy; replace hZ := row_on hZ hK9 hgz'; replace hO := row_on hO hK9 hgo; obtain ⟨⟨x0, x1, x2, x3, x4⟩, v0, v1, v2, v3, v4⟩ := row5 hX; obtain ⟨⟨r0, r1, r2, r3, r4⟩, y0, y1, y2, y3, y4⟩ := row5 hR; obtain ⟨⟨d0, d1, d2, d3, d4⟩, _, _, _, _, _⟩ := row5 hY; obtain ⟨⟨f0, f1, f2, f3, f4⟩, _, _, _, _, _⟩ := row5 hZ; obtain ⟨⟨o0, o1, o2, o3, o4⟩, s0, s1, s2, s3, s4⟩ := row5 hO; have hs9 := hK9.size; have hbx9 := blk_lt hX; have hr9 := blk_lt hR; have hy9 := blk_lt hY; have hz9' := blk_lt hZ; have ho9 := blk_lt hO; clear hM8; cases hβ : isOf 1 (tk E i8 c8) ⟨#[101, 108, 115, 101]⟩; all_goals try (obtain ⟨hc8, hi8l, _⟩ := isOf_tok (by decide) hβ; obtain rfl : c9 = 0 := hsm9.live hc8 hi8l; have hM9 := hst9.moved hi8l; obtain ⟨g0, gl, gb, gd, hblk⟩ := hst9.blk; have c1 := cell_of hblk 1 (.int .i64 i8) rfl; have zf := frozen_of hblk 1; clear hblk; have hq9 := kp_set1 w9 E.pb 1 (.int .i64 (i8 + 1))))
    | (go_at_call 36; have hgd := hM9; clear hgd; refine Calls.mono ((hbk (i8 + 1) (by omega)).at hM9.look) ?_; rintro e w10 ⟨nd3, k'', t'', x'', ao'', n'', cp'', a'', i10, c10, rfl, hn3, hok3, hst10, hK10, hi10, hz10⟩; replace hE := (hE.trans hq9).trans hK10; have hK910 := hq9.trans hK10; replace hR := row_on hR hK910 hg; replace hX := row_on hX hK910 hg2; replace hY := row_on hY hK910 hgy; replace hZ := row_on hZ hK910 hgz'; replace hO := row_on hO hK910 hgo; obtain ⟨⟨x0, x1, x2, x3, x4⟩, v0, v1, v2, v3, v4⟩ := row5 hX; obtain ⟨⟨r0, r1, r2, r3, r4⟩, y0, y1, y2, y3, y4⟩ := row5 hR; obtain ⟨⟨d0, d1, d2, d3, d4⟩, _, _, _, _, _⟩ := row5 hY; obtain ⟨⟨f0, f1, f2, f3, f4⟩, _, _, _, _, _⟩ := row5 hZ; obtain ⟨⟨o0, o1, o2, o3, o4⟩, s0, s1, s2, s3, s4⟩ := row5 hO; have hs10 := hK910.size; rw [World.size_alloc] at hs8; rw [World.size_alloc, World.size_alloc] at hs9; have hne1 : w7.heap.size ≠ w8.heap.size + 1 := (by omega); have hne1' : w8.heap.size + 1 ≠ w7.heap.size := (by omega); have hne2 : w1.heap.size ≠ w8.heap.size := (by omega); have hne2' : w8.heap.size ≠ w1.heap.size := (by omega); have hne3 : w.heap.size ≠ w8.heap.size + 1 := (by omega); have hne3' : w8.heap.size + 1 ≠ w.heap.size := (by omega); have hbx9 := blk_lt hX; have hr9 := blk_lt hR; have hy9 := blk_lt hY; have hz9' := blk_lt hZ; have ho9 := blk_lt hO))
  all_goals rw [sc_size, sc_size] at hb6 hr6 ht6 hs7
  · (try rw [World.size_alloc] at hs8)
    (try rw [World.size_alloc, World.size_alloc] at hs9)
    have hQ2 : Kp (fun j => j < w7.heap.size) w8 w9 := (((kp_alloc w8 _).alloc _).weak).trans (hK9.imp (fun _ e => by omega))
    have hQ1 : Kp (fun j => j < w2.heap.size) w7 w9 := (((kp_alloc w7 _).weak).trans (hK8.imp (fun _ e => by omega))).trans ((((kp_alloc w8 _).alloc _).weak).trans (hK9.imp (fun _ e => by omega)))
    replace hQ2 := hQ2.imp (S' := fun j => j < w7.heap.size) (fun _ e => e)
    have hq10 := kp_set1 w9 (w1.heap.size + 1) 3 (.slice (some ⟨w9.heap.size, 0, none⟩) 3 3)
    have hk5 := kp_sets5 (w9.setCell ⟨w1.heap.size + 1, 3, none⟩ (.slice (some ⟨w9.heap.size, 0, none⟩) 3 3)) w.heap.size (.int .i64 10) (.string ⟨#[]⟩) (.float .f64 0) (.slice (some ⟨w9.heap.size, 0, none⟩) 3 3) (.int .i64 (tk E i 0).a)
    have hall : Kp (fun j => j < w2.heap.size) w9 ((sets5 (w9.setCell ⟨w1.heap.size + 1, 3, none⟩ (.slice (some ⟨w9.heap.size, 0, none⟩) 3 3)) w.heap.size (.int .i64 10) (.string ⟨#[]⟩) (.float .f64 0) (.slice (some ⟨w9.heap.size, 0, none⟩) 3 3) (.int .i64 (tk E i 0).a)).alloc (.cells #[.int .i64 k, .string t, .float .f64 x, .slice ao n cp, .int .i64 a, .int .i64 k', .string t', .float .f64 x', .slice ao' n' cp', .int .i64 a', .int .i64 0, .string ⟨#[]⟩, .float .f64 0, .slice none 0 0, .int .i64 (tk E i 0).a] 25)) := ((hq10.imp (fun _ e => by omega)).trans (hk5.imp (fun _ e => by omega))).alloc _
    have hgrow := heap_alloc_new (sets5 (w9.setCell ⟨w1.heap.size + 1, 3, none⟩ (.slice (some ⟨w9.heap.size, 0, none⟩) 3 3)) w.heap.size (.int .i64 10) (.string ⟨#[]⟩) (.float .f64 0) (.slice (some ⟨w9.heap.size, 0, none⟩) 3 3) (.int .i64 (tk E i 0).a)) (.cells #[.int .i64 k, .string t, .float .f64 x, .slice ao n cp, .int .i64 a, .int .i64 k', .string t', .float .f64 x', .slice ao' n' cp', .int .i64 a', .int .i64 0, .string ⟨#[]⟩, .float .f64 0, .slice none 0 0, .int .i64 (tk E i 0).a] 25)
    have hgz : (sets5 (w9.setCell ⟨w1.heap.size + 1, 3, none⟩ (.slice (some ⟨w9.heap.size, 0, none⟩) 3 3)) w.heap.size (.int .i64 10) (.string ⟨#[]⟩) (.float .f64 0) (.slice (some ⟨w9.heap.size, 0, none⟩) 3 3) (.int .i64 (tk E i 0).a)).heap.size = w9.heap.size := by simp only [sc_size]
    rw [hgz] at hgrow
    have hkid1 := hn.move (w := w) (((hQ1.trans hall)).imp (fun _ e => by rw [sc_size, sc_size]; exact e)) (by rw [sc_size, sc_size]; omega)
    have hkid2 := hn2.move (w := w) ((hQ2.trans (hall.imp (fun _ e => Nat.lt_of_lt_of_le e hs7))).imp (fun _ e => by rw [World.size_alloc]; omega)) (by rw [World.size_alloc]; omega)
    have hkid3 := leaf0 (New w ((sets5 (w9.setCell ⟨w1.heap.size + 1, 3, none⟩ (.slice (some ⟨w9.heap.size, 0, none⟩) 3 3)) w.heap.size (.int .i64 10) (.string ⟨#[]⟩) (.float .f64 0) (.slice (some ⟨w9.heap.size, 0, none⟩) 3 3) (.int .i64 (tk E i 0).a)).alloc (.cells #[.int .i64 k, .string t, .float .f64 x, .slice ao n cp, .int .i64 a, .int .i64 k', .string t', .float .f64 x', .slice ao' n' cp', .int .i64 a', .int .i64 0, .string ⟨#[]⟩, .float .f64 0, .slice none 0 0, .int .i64 (tk E i 0).a] 25))) ((sets5 (w9.setCell ⟨w1.heap.size + 1, 3, none⟩ (.slice (some ⟨w9.heap.size, 0, none⟩) 3 3)) w.heap.size (.int .i64 10) (.string ⟨#[]⟩) (.float .f64 0) (.slice (some ⟨w9.heap.size, 0, none⟩) 3 3) (.int .i64 (tk E i 0).a)).alloc (.cells #[.int .i64 k, .string t, .float .f64 x, .slice ao n cp, .int .i64 a, .int .i64 k', .string t', .float .f64 x', .slice ao' n' cp', .int .i64 a', .int .i64 0, .string ⟨#[]⟩, .float .f64 0, .slice none 0 0, .int .i64 (tk E i 0).a] 25)) (tk E i 0).a
    have hkids := three_kids hgrow (R := New w _) ⟨by omega, blk_lt hgrow⟩ hkid1 hkid2 hkid3
    have hst10 := (St.own h (St.own h hst9 hq10 (by omega)) hk5 (Nat.le_refl _)).alloc (.cells #[.int .i64 k, .string t, .float .f64 x, .slice ao n cp, .int .i64 a, .int .i64 k', .string t', .float .f64 x', .slice ao' n' cp', .int .i64 a', .int .i64 0, .string ⟨#[]⟩, .float .f64 0, .slice none 0 0, .int .i64 (tk E i 0).a] 25)
    have hE9 := ((hE.own hq10 (by omega)).own hk5 (Nat.le_refl _)).alloc (.cells #[.int .i64 k, .string t, .float .f64 x, .slice ao n cp, .int .i64 a, .int .i64 k', .string t', .float .f64 x', .slice ao' n' cp', .int .i64 a', .int .i64 0, .string ⟨#[]⟩, .float .f64 0, .slice none 0 0, .int .i64 (tk E i 0).a] 25)
    exact end5 rfl (row_past (sets5_row (row_on hR hq10 (by omega))) _) rfl ⟨.mk 10 ⟨#[]⟩ 0 [nd, nd2, .mk 0 ⟨#[]⟩ 0 [] (tk E i 0).a] (tk E i 0).a, _, i8, c9, rfl, ⟨_, rfl, .inr ⟨_, 0, 3, rfl, Nat.le_refl _, by unfold maxLen; omega⟩, hkids⟩, ⟨by decide, hok, hok2, ⟨by decide, trivial⟩, trivial⟩, hst10, hE9, by omega, fun e => by
      obtain ⟨h4, h5, h6⟩ := hz8 (hsm9.zero e)
      obtain ⟨h1, h2, h3⟩ := hz7 h4
      refine ⟨rfl, by omega, ?_⟩
      simp only [Nd.wt, wtL]
      omega⟩

  · have hqo := kp_sets5 w10 (w8.heap.size + 1) (.int .i64 k'') (.string t'') (.float .f64 x'') (.slice ao'' n'' cp'') (.int .i64 a'')
    obtain ⟨WT, hWT⟩ : ∃ WT, WT = sets5 w10 (w8.heap.size + 1) (.int .i64 k'') (.string t'') (.float .f64 x'') (.slice ao'' n'' cp'') (.int .i64 a'') := ⟨_, rfl⟩
    have hzT : WT.heap.size = w10.heap.size := by rw [hWT]; simp [sets5]
    rw [← hWT] at hqo
    have hstT := St.own h hst10 hqo (by omega)
    replace hE := hE.own hqo (by omega)
    replace hR := row_on hR hqo (by omega)
    unfold sets5 at hWT
    simp only [← hWT]
    clear hWT
    have hsM := hK10.size
    rw [sc_size] at hsM
    have hQ3 : Kp (fun j => j < w9.heap.size) w10 WT := hqo.imp (fun _ e => by omega)
    have hQ2 : Kp (fun j => j < w7.heap.size ∨ j = w8.heap.size + 1) w8 WT := (((((kp_alloc w8 _).alloc _).weak).trans (hK9.imp (fun _ e => Or.inl (by omega)))).trans (hK910.imp (fun _ e => Or.inl (by omega)))).trans (hqo.imp (fun _ e => Or.inr e))
    have hQ1 : Kp (fun j => j < w2.heap.size ∨ j = w8.heap.size + 1) w7 WT := (((((kp_alloc w7 _).weak).trans (hK8.imp (fun _ e => Or.inl (by omega)))).trans (((kp_alloc w8 _).alloc _).weak)).trans ((hK9.imp (fun _ e => Or.inl (by omega))).trans (hK910.imp (fun _ e => Or.inl (by omega))))).trans (hqo.imp (fun _ e => Or.inr e))
    have hq10 := kp_set1 WT (w1.heap.size + 1) 3 (.slice (some ⟨w10.heap.size, 0, none⟩) 3 3)
    have hk5 := kp_sets5 (WT.setCell ⟨w1.heap.size + 1, 3, none⟩ (.slice (some ⟨w10.heap.size, 0, none⟩) 3 3)) w.heap.size (.int .i64 10) (.string ⟨#[]⟩) (.float .f64 0) (.slice (some ⟨w10.heap.size, 0, none⟩) 3 3) (.int .i64 (tk E i 0).a)
    have hall : Kp (fun j => j < w2.heap.size) WT ((sets5 (WT.setCell ⟨w1.heap.size + 1, 3, none⟩ (.slice (some ⟨w10.heap.size, 0, none⟩) 3 3)) w.heap.size (.int .i64 10) (.string ⟨#[]⟩) (.float .f64 0) (.slice (some ⟨w10.heap.size, 0, none⟩) 3 3) (.int .i64 (tk E i 0).a)).alloc (.cells #[.int .i64 k, .string t, .float .f64 x, .slice ao n cp, .int .i64 a, .int .i64 k', .string t', .float .f64 x', .slice ao' n' cp', .int .i64 a', .int .i64 k'', .string t'', .float .f64 x'', .slice ao'' n'' cp'', .int .i64 a''] 25)) := ((hq10.imp (fun _ e => by omega)).trans (hk5.imp (fun _ e => by omega))).alloc _
    have hgrow := heap_alloc_new (sets5 (WT.setCell ⟨w1.heap.size + 1, 3, none⟩ (.slice (some ⟨w10.heap.size, 0, none⟩) 3 3)) w.heap.size (.int .i64 10) (.string ⟨#[]⟩) (.float .f64 0) (.slice (some ⟨w10.heap.size, 0, none⟩) 3 3) (.int .i64 (tk E i 0).a)) (.cells #[.int .i64 k, .string t, .float .f64 x, .slice ao n cp, .int .i64 a, .int .i64 k', .string t', .float .f64 x', .slice ao' n' cp', .int .i64 a', .int .i64 k'', .string t'', .float .f64 x'', .slice ao'' n'' cp'', .int .i64 a''] 25)
    have hgz : (sets5 (WT.setCell ⟨w1.heap.size + 1, 3, none⟩ (.slice (some ⟨w10.heap.size, 0, none⟩) 3 3)) w.heap.size (.int .i64 10) (.string ⟨#[]⟩) (.float .f64 0) (.slice (some ⟨w10.heap.size, 0, none⟩) 3 3) (.int .i64 (tk E i 0).a)).heap.size = w10.heap.size := by simp only [sc_size]; exact hzT
    rw [hgz] at hgrow
    have hT1 := (hQ1.trans (hall.imp (S' := fun j => j < w2.heap.size ∨ j = w8.heap.size + 1) (fun _ e => Or.inl e)))
    have hT2 := (hQ2.trans (hall.imp (S' := fun j => j < w7.heap.size ∨ j = w8.heap.size + 1) (fun _ e => Or.inl (Nat.lt_of_lt_of_le e hs7))))
    have hT3 := (hQ3.trans (hall.imp (S' := fun j => j < w9.heap.size) (fun _ e => by omega)))
    have hkid1 := hn.move2 (w := w) (fun j h1 h2 => hT1.block j h2 (by rw [sc_size, sc_size] at h1; omega)) (by rw [sc_size, sc_size]; omega) hT1.size
    have hkid2 := hn2.move2 (w := w) (fun j h1 h2 => hT2.block j h2 (by rw [World.size_alloc] at h1; omega)) (by rw [World.size_alloc]; omega) hT2.size
    have hkid3 := hn3.move2 (w := w) (fun j h1 h2 => hT3.block j h2 (by rw [sc_size] at h1; omega)) (by rw [sc_size]; omega) hT3.size
    have hkids := three_kids hgrow (R := New w _) ⟨by omega, blk_lt hgrow⟩ hkid1 hkid2 hkid3
    have hst9 := (St.own h (St.own h hstT hq10 (by omega)) hk5 (Nat.le_refl _)).alloc (.cells #[.int .i64 k, .string t, .float .f64 x, .slice ao n cp, .int .i64 a, .int .i64 k', .string t', .float .f64 x', .slice ao' n' cp', .int .i64 a', .int .i64 k'', .string t'', .float .f64 x'', .slice ao'' n'' cp'', .int .i64 a''] 25)
    have hE9 := ((hE.own hq10 (by omega)).own hk5 (Nat.le_refl _)).alloc (.cells #[.int .i64 k, .string t, .float .f64 x, .slice ao n cp, .int .i64 a, .int .i64 k', .string t', .float .f64 x', .slice ao' n' cp', .int .i64 a', .int .i64 k'', .string t'', .float .f64 x'', .slice ao'' n'' cp'', .int .i64 a''] 25)
    exact end5 rfl (row_past (sets5_row (row_on hR hq10 (by omega))) _) rfl ⟨.mk 10 ⟨#[]⟩ 0 [nd, nd2, nd3] (tk E i 0).a, _, i10, c10, rfl, ⟨_, rfl, .inr ⟨_, 0, 3, rfl, Nat.le_refl _, by unfold maxLen; omega⟩, hkids⟩, ⟨by decide, hok, hok2, hok3, trivial⟩, hst9, hE9, by omega, fun e => by
      obtain ⟨h7, h8, h9⟩ := hz10 e
      obtain ⟨h4, h5, h6⟩ := hz8 hc8
      obtain ⟨h1, h2, h3⟩ := hz7 h4
      refine ⟨rfl, by omega, ?_⟩
      simp only [Nd.wt, wtL]
      omega⟩
end Go.Proofs.Ytfkgfibmhhlemaa
namespace Go.Proofs.Ytfkgfibmhhlemaa
open Go.RowKit Go.Maps Go.WideMaps
theorem pstmt_node (E : Env) (i : Nat) (hbk : ∀ j, i < j → NOk 36 E j) : NOk 25 E i := by
  intro c w h
  cases hs1 : isOf 1 (tk E i c) ⟨#[115, 101, 116]⟩
  · cases hs2 : isOf 1 (tk E i c) ⟨#[105, 102]⟩
    · cases hs3 : isOf 1 (tk E i c) ⟨#[119, 104, 105, 108, 101]⟩
      · cases hs4 : isOf 1 (tk E i c) ⟨#[100, 111]⟩
        · cases hs5 : isOf 1 (tk E i c) ⟨#[102, 97, 105, 108]⟩
          · exact pstmt_none E i c w h hs1 hs2 hs3 hs4 hs5
          · cases hf : ((tk E i c).t.toList == [102, 97, 105, 108])
            · exact pstmt_fail E i c w h hs1 hs2 hs3 hs4 hs5 hf
            · exact pstmt_fail2 E i c w h hs1 hs2 hs3 hs4 hs5 hf
        · cases hf : ((tk E i c).t.toList == [102, 97, 105, 108])
          · exact pstmt_do E i c w h hs1 hs2 hs3 hs4 hf
          · exact pstmt_do2 E i c w h hs1 hs2 hs3 hs4 hf
      · exact pstmt_while E i hbk c w h hs1 hs2 hs3
    · exact pstmt_if E i hbk c w h hs1 hs2
  · exact pstmt_set E i c w h hs1
theorem stmts_all (E : Env) : ∀ (n i : Nat), E.ts.length + 1 - i ≤ n → NOk 25 E i ∧ NOk 36 E i
  | 0, i, hi => by
    have hv : ∀ c w, ¬ St E w i c := fun c w h => by have := h.len; omega
    exact ⟨fun c w h => absurd h (hv c w), fun c w h => absurd h (hv c w)⟩
  | n + 1, i, hi => by
    have ih : ∀ j, i < j → NOk 25 E j ∧ NOk 36 E j := fun j hj => stmts_all E n j (by omega)
    exact ⟨pstmt_node E i fun j hj => (ih j hj).2, pblock_any E i fun j hj => (ih j hj).1⟩
/-- a statement -/
theorem pstmt_any (E : Env) (i : Nat) : NOk 25 E i := (stmts_all E _ i (Nat.le_refl _)).1
end Go.Proofs.Ytfkgfibmhhlemaa

/- JournalSteps: the law. Condition: awake answers true. -/
import Derived.Test.YtkcclaljhedmjaaC7
import Derived.Deep.CutBlock
import Derived.Deep.CutRange
import Derived.StillTailTactics
import Derived.Deep.RegionHeld3
import Derived.Laws.Bits128
namespace Go.Proofs.Ytkcclaljhedmjaa
open Go.RowKit Go.Maps
set_option maxHeartbeats 40000000 in
set_option maxRecDepth 100000 in
theorem law_any (w : World) (a : Option Addr) (n cap : Nat) (hst : StepsAt w a n cap) (hawake : ∀ w', Kp (fun _ => False) w w' → Calls Try.prog 20 #[] w' fun e w'' => e = .returned (.bool true) ∧ Kp (fun _ => False) w' w'') :
    Calls Try.prog 3 #[.slice a n cap] w fun e w' => e = .returned (.bool true) ∧ Kp (fun _ => False) w w' := by
  have hnew := new_any p7 w
  have hmm := fun w => run_makeMap (P := Try.prog) 31 w
  go_enter Try.func3, Try.ntmps3
  go_wp2_with (first
    | (go_at_call 6; refine Calls.mono hnew ?_; rintro e w1 ⟨d, ib, hd, hi, rfl, hD1, hK1⟩; have hfmt := fmt_any hD1; clear hnew)
    | (go_at_call 7; refine Calls.mono hfmt ?_; rintro e w2 ⟨j, mb, off2, hj, hmb, rfl, hJ2, hoc2, hK2⟩; obtain rfl : off2 = false := (by cases off2; rfl; exact absurd (hoc2 rfl) (by decide)))
    | (go_at_call 8; refine Calls.mono (num_any _ _) ?_; rintro e w3 ⟨rfl, rfl⟩; have hP0 := start_pst (B := w.heap.size) hJ2 (Nat.le_trans hK1.size hK2.size) hd hi (Nat.le_trans hK1.size hj) (Nat.le_trans hK1.size hmb); have hhm0 := hP0.homes)
    | (go_at_call 9; refine Calls.mono hhm0 ?_; rintro e w4 ⟨rfl, hK4⟩))
  have hrel0 : LawRel w (w2.heap.size + 1 + 1) d ib w2.heap.size 0 w4 := ⟨by omega, (Kp.new hK1 hK2 (fun k e => .inr (e.elim (fun e => e ▸ hd) (fun e => e ▸ hi)))).trans ((start_kp _ _ _).trans hK4), _, _, _, _, _, _, _, _, _, hP0.same hK4, Nat.le_refl _⟩
  have hs1 := hK1.size
  have hs2 := hK2.size
  clear hhm0 hP0 hK4 hJ2 hfmt hD1 hoc2 hK2 hK1
  generalize hyb : w2.heap.size + 1 + 1 = yb at *
  go_loopw [8] (fun i wr => ∃ k : Nat, i = .int .i64 k ∧ LawRel w yb d ib w2.heap.size k wr) (fun i _ => 120 - (RowKit.intOf i).toNat)
  case atStart => exact ⟨0, rfl, hrel0⟩
  case round =>
    obtain ⟨i, rfl, hi120, hKp, j1, mb, sb, f, writes, S, m, H, hm, hP, hhm⟩ := hrel
    by_cases hlt : i < n ∧ i < 120
    · obtain ⟨hin, hi2⟩ := hlt
      have g1 : decide ((i : Int) < (n : Int)) = true := by simp; omega
      have g2 : decide ((i : Int) < 120) = true := by simp; omega
      obtain ⟨b, o, hab, hbl, kd, t, u, z, wk, wt, wu, wz, c0, c1, c2, c3⟩ := hst.2 i hin
      subst hab
      have hcell : ∀ a v, w.cell? ⟨b, a, none⟩ = some v → wr.cell? ⟨b, a, none⟩ = some v := fun a v h => (World.cell?_of_block (hKp.block b hbl (fun e => e))).trans h
      replace c0 := hcell _ _ c0
      replace c1 := hcell _ _ c1
      replace c2 := hcell _ _ c2
      replace c3 := hcell _ _ c3
      clear hcell
      have hKb := kp_alloc (fun _ => False) wr (.cells #[.int .i64 kd, .int .i64 t, .int .i64 u, .int .i64 z] 37)
      have hPb := hP.same hKb
      have hBs : w.heap.size ≤ wr.heap.size := hKp.size
      have hkd : kd = 0 ∨ kd = 1 ∨ kd = 2 ∨ kd = 3 ∨ kd = 4 ∨ kd = 5 ∨ kd = 6 ∨ kd = 7 ∨ (kd ≠ 0 ∧ kd ≠ 1 ∧ kd ≠ 2 ∧ kd ≠ 3 ∧ kd ≠ 4 ∧ kd ≠ 5 ∧ kd ≠ 6 ∧ kd ≠ 7) := by omega
      replace hkd := Lib.hid hkd
      go_upto_block 2 with (fail)
      go_cut [10] from 41 to 265 (fun _ wc => LawMid w yb d ib w2.heap.size i wc)
      case first =>
        have bx := heap_alloc_new wr (.cells #[.int .i64 kd, .int .i64 t, .int .i64 u, .int .i64 z] 37)
        have b0 := cell_of bx 0 _ rfl
        have b1 := cell_of bx 1 _ rfl
        have b2 := cell_of bx 2 _ rfl
        have b3 := cell_of bx 3 _ rfl
        have hWs : w.heap.size ≤ (wr.alloc (.cells #[.int .i64 kd, .int .i64 t, .int .i64 u, .int .i64 z] 37)).heap.size := by simp; omega
        generalize wr.alloc (.cells #[.int .i64 kd, .int .i64 t, .int .i64 u, .int .i64 z] 37) = W at *
        rcases hkd.out with rfl | rfl | rfl | rfl | rfl | rfl | rfl | rfl | ⟨k0, k1, k2, k3, k4, k5, k6, k7⟩
        · as_aux_lemma =>
          obtain ⟨bs, hbs, hblk⟩ : ∃ bs, bs.size = 256 ∧ ∀ w', Calls Try.prog 11 #[.int .i64 u] w' (StrPost bs w') := ⟨_, by rw [strB_size, blkL_len], fun w' => blk7_any u w'⟩
          obtain ⟨⟨p0, p1, p2, p3, p4, p5⟩, z0, z1, z2, z3, z4, z5⟩ := row6 hPb.play
          have hKW := hKp.trans hKb
          have hPd := hPb.same ((kp_refl (fun _ => False) W).drew)
          go_upto_region 20 with (fail)
          go_cut [10] from 81 to 90 (fun s10 wc => PutMid w.heap.size yb d ib w2.heap.size j1 mb sb f writes S m H hm t bs wr.heap.size #[.int .i64 0, .int .i64 t, .int .i64 u, .int .i64 z] w s10 wc)
          case first =>
            have q1 : W.drew.cell? ⟨yb, 1, none⟩ = some (.pointer (some ⟨j1, 0, none⟩)) := p1
            have q2 : W.drew.cell? ⟨wr.heap.size, 1, none⟩ = some (.int .i64 t) := b1
            have q3 : W.drew.cell? ⟨wr.heap.size, 2, none⟩ = some (.int .i64 u) := b2
            go_region_held3 (fun w' => w'.cell? ⟨yb, 1, none⟩ = some (.pointer (some ⟨j1, 0, none⟩)) ∧ w'.cell? ⟨wr.heap.size, 1, none⟩ = some (.int .i64 t) ∧ w'.cell? ⟨wr.heap.size, 2, none⟩ = some (.int .i64 u)) (first | exact ⟨p1, b1, b2⟩ | exact ⟨q1, q2, q3⟩ | exact ⟨s1, s2, s3⟩ | exact ⟨t1, t2, t3⟩)
              (first
                | (go_at_call 11; refine Calls.mono (hblk _) ?_; rintro e w3 ⟨rfl, hK3⟩; have hP3 := hPd.same hK3; have s1 := (row6 hP3.play).1.2.1; have bx3 := (hK3.block wr.heap.size (blk_lt bx) (fun e => e)).trans bx; have s2 := cell_of bx3 1 _ rfl; have s3 := cell_of bx3 2 _ rfl; have hput := hP3.put t wt bs hbs)
                | (go_at_call 10; refine Calls.mono hput ?_; rintro e w4 ⟨code, S4, m4, rfl, hJ4, hK4, hway⟩; have hmid := hP3.mid hK4; have t1 := (row6 hmid.1).1.2.1; have bx4 := (hK4.block wr.heap.size (blk_lt bx3) (by have := hP.size; omega)).trans bx3; have t2 := cell_of bx4 1 _ rfl; have t3 := cell_of bx4 2 _ rfl))
            go_wp2
            go_meet
            exact ⟨code, S4, m4, w3, rfl, hP3, hKW.trans (((kp_refl _ W).drew).trans hK3), hK4, hJ4, bx4, hway⟩
          case rest =>
            obtain ⟨code, S4, m4, w3, hs10, hP3, hK3, hK4, hJ4, bx4, hway⟩ := hcut
            subst hs10
            have hmid := hP3.mid hK4
            have hmbB : ∀ k, k = mb → False ∨ w.heap.size ≤ k := fun k e => .inr (e ▸ hPb.far.2.2.2.2.2.1)
            have hKwc := Kp.new hK3 hK4 hmbB
            obtain ⟨⟨q0, q1, q2, q3, q4, q5⟩, y0, y1, y2, y3, y4, y5⟩ := row6 hmid.1
            have b14 := cell_of bx4 1 _ rfl
            have b24 := cell_of bx4 2 _ rfl
            have hlk := fun q => (hmid.2.2.kp ((kp_refl (fun _ => False) wc).drewN q) (fun e => e)).look Try.underlying31 (Try.zeroValue9 _) wt true
            have hln := fun q ty => (hmid.2.2.kp ((kp_refl (fun _ => False) wc).drewN q) (fun e => e)).len Try.underlying31 ty
            have hdq : ∀ q, Kp (fun _ => False) wc (wc.drewN q) := fun q => (kp_refl _ wc).drewN q
            clear p0 p1 p2 p3 p4 p5 z0 z1 z2 z3 z4 z5 hPd
            rcases hway with ⟨hh, rfl, rfl, rfl⟩ | ⟨hh, hSt, hm40, rfl, rfl, rfl⟩ | ⟨hh, hSt, hm40, rfl, hS4, hm4⟩ | ⟨hh, ⟨s0, hSt⟩, rfl, hS4, hm4⟩
            · have hend := hP3.unput hK4 hJ4
              have hpl := (place_cases t).resolve_right (fun h => by rw [hh] at h; exact absurd h.1 (by decide))
              have hpl2 : (decide (t < 0) = true) ∨ (decide (t < 0) = false ∧ decide ((110 : Int) ≤ t) = true) ∨ (decide (t < 0) = false ∧ decide ((110 : Int) ≤ t) = false ∧ decide ((10 : Int) ≤ t) = true ∧ decide (t < 70) = true) := by have := hpl.2; simp; omega
              clear hpl hh
              go_wp2
              go_quiet (fail)
              rcases hpl2 with e0 | ⟨e0, e1⟩ | ⟨e0, e1, e2, e3⟩
              all_goals
                go_wp2_with (go_at_call 8; refine Calls.mono (num_any _ _) ?_; rintro e w13 ⟨rfl, rfl⟩)
                go_meet
                exact ⟨hKwc.trans (hdq _), _, _, _, _, _, _, _, _, _, hend.same (hdq _), by omega⟩
            · rw [strM_none hSt] at hlk
              have g40 : decide ((40 : Int) ≤ (m4 : Int)) = true := by simp; omega
              have hend := hP3.unput hK4 hJ4
              have hpl := (place_cases t).resolve_left (fun h => by rw [hh] at h; exact absurd h.1 (by decide))
              have hpl2 : (decide (t < 0) = false ∧ decide ((110 : Int) ≤ t) = false ∧ decide ((10 : Int) ≤ t) = false) ∨ (decide (t < 0) = false ∧ decide ((110 : Int) ≤ t) = false ∧ decide ((10 : Int) ≤ t) = true ∧ decide (t < 70) = false) := by have := hpl.2; simp; omega
              clear hpl hh
              go_wp2
              go_quiet (fail)
              have hln2 := hln nq
              clear hln
              rcases hpl2 with ⟨e0, e1, e2⟩ | ⟨e0, e1, e2, e3⟩
              all_goals
                go_wp2_with (go_at_call 8; refine Calls.mono (num_any _ _) ?_; rintro e w13 ⟨rfl, rfl⟩)
                go_meet
                exact ⟨hKwc.trans (hdq _), _, _, _, _, _, _, _, _, _, hend.same (hdq _), by omega⟩
            · have hst0 : (strM S t).isSome = false := by rw [strM_none hSt]; rfl
              rw [strM_none hSt] at hlk
              have g40 : decide ((40 : Int) ≤ (m : Int)) = false := by simp; omega
              have hpl := (place_cases t).resolve_left (fun h => by rw [hh] at h; exact absurd h.1 (by decide))
              have hpl2 : (decide (t < 0) = false ∧ decide ((110 : Int) ≤ t) = false ∧ decide ((10 : Int) ≤ t) = false) ∨ (decide (t < 0) = false ∧ decide ((110 : Int) ≤ t) = false ∧ decide ((10 : Int) ≤ t) = true ∧ decide (t < 70) = false) := by have := hpl.2; simp; omega
              have hf40 := hPb.stg.few
              have hV : ∀ q, Kp (fun _ => False) wc (wc.drewN q).drew := fun q => ((kp_refl _ wc).drewN q).drew
              clear hpl
              go_wp2
              go_quiet (fail)
              rcases hpl2 with ⟨e0, e1, e2⟩ | ⟨e0, e1, e2, e3⟩
              all_goals
                go_wp2
                have v1 : (wc.drewN nq).drew.cell? ⟨yb, 4, none⟩ = some (.map (some sb)) := q4
                have v2 : (wc.drewN nq).drew.cell? ⟨wr.heap.size, 1, none⟩ = some (.int .i64 t) := b14
                have v3 : (wc.drewN nq).drew.cell? ⟨wr.heap.size, 2, none⟩ = some (.int .i64 u) := b24
                have x1 : (wc.drewN nq).cell? ⟨yb, 4, none⟩ = some (.map (some sb)) := q4
                have x2 : (wc.drewN nq).cell? ⟨wr.heap.size, 1, none⟩ = some (.int .i64 t) := b14
                have x3 : (wc.drewN nq).cell? ⟨wr.heap.size, 2, none⟩ = some (.int .i64 u) := b24
                go_region_held3 (fun w' => w'.cell? ⟨yb, 4, none⟩ = some (.map (some sb)) ∧ w'.cell? ⟨wr.heap.size, 1, none⟩ = some (.int .i64 t) ∧ w'.cell? ⟨wr.heap.size, 2, none⟩ = some (.int .i64 u)) (first | exact ⟨x1, x2, x3⟩ | exact ⟨v1, v2, v3⟩ | exact ⟨s1, s2, s3⟩ | exact ⟨t1, t2, t3⟩)
                  (first
                    | (go_at_call 11; refine Calls.mono (hblk _) ?_; rintro e w6 ⟨rfl, hK6⟩; have hK6w := (hV nq).trans hK6; have hy6 : PlayAt w6 yb d j1 w2.heap.size sb false := (hK6w.block yb (blk_lt hmid.1) (fun e => e)).trans hmid.1; have s1 := (row6 hy6).1.2.2.2.2.1; have bx6 := (hK6w.block wr.heap.size (blk_lt bx4) (fun e => e)).trans bx4; have s2 := cell_of bx6 1 _ rfl; have s3 := cell_of bx6 2 _ rfl; obtain ⟨w7, hst7, hM7, hK7, hz7⟩ := (hmid.2.2.kp hK6w (fun e => e)).store (by omega) Try.underlying31 wt (.string bs); have hy7 : PlayAt w7 yb d j1 w2.heap.size sb false := (hK7.block yb (blk_lt hy6) hP3.nes.2.2.2.2.2.1).trans hy6; have t1 := (row6 hy7).1.2.2.2.2.1; have bx7 := (hK7.block wr.heap.size (blk_lt bx6) (by have := hP.size; omega)).trans bx6; have t2 := cell_of bx7 1 _ rfl; have t3 := cell_of bx7 2 _ rfl))
                rw [strM_put, hst0, ← hS4] at hM7
                have hdone := hP3.done hK4 hJ4 hK6w hK7 (by rw [hm4]; exact hM7) hS4 hbs hh (by omega)
                have hKf := Kp.new (hKwc.trans hK6w) hK7 (fun k e => .inr (e ▸ hPb.far.2.2.2.2.2.2))
                go_wp2_with (go_at_call 8; refine Calls.mono (num_any _ _) ?_; rintro e w13 ⟨rfl, rfl⟩)
                go_meet
                exact ⟨hKf, _, _, _, _, _, _, _, _, _, hdone, by omega⟩
            · have hst0 : (strM S t).isSome = true := by rw [strM_some hSt]; rfl
              rw [strM_some hSt] at hlk
              have hpl := (place_cases t).resolve_left (fun h => by rw [hh] at h; exact absurd h.1 (by decide))
              have hpl2 : (decide (t < 0) = false ∧ decide ((110 : Int) ≤ t) = false ∧ decide ((10 : Int) ≤ t) = false) ∨ (decide (t < 0) = false ∧ decide ((110 : Int) ≤ t) = false ∧ decide ((10 : Int) ≤ t) = true ∧ decide (t < 70) = false) := by have := hpl.2; simp; omega
              have hf40 := hPb.stg.few
              have hV : ∀ q, Kp (fun _ => False) wc (wc.drewN q).drew := fun q => ((kp_refl _ wc).drewN q).drew
              clear hpl
              go_wp2
              go_quiet (fail)
              rcases hpl2 with ⟨e0, e1, e2⟩ | ⟨e0, e1, e2, e3⟩
              all_goals
                go_wp2
                have v1 : (wc.drewN nq).drew.cell? ⟨yb, 4, none⟩ = some (.map (some sb)) := q4
                have v2 : (wc.drewN nq).drew.cell? ⟨wr.heap.size, 1, none⟩ = some (.int .i64 t) := b14
                have v3 : (wc.drewN nq).drew.cell? ⟨wr.heap.size, 2, none⟩ = some (.int .i64 u) := b24
                have x1 : (wc.drewN nq).cell? ⟨yb, 4, none⟩ = some (.map (some sb)) := q4
                have x2 : (wc.drewN nq).cell? ⟨wr.heap.size, 1, none⟩ = some (.int .i64 t) := b14
                have x3 : (wc.drewN nq).cell? ⟨wr.heap.size, 2, none⟩ = some (.int .i64 u) := b24
                go_region_held3 (fun w' => w'.cell? ⟨yb, 4, none⟩ = some (.map (some sb)) ∧ w'.cell? ⟨wr.heap.size, 1, none⟩ = some (.int .i64 t) ∧ w'.cell? ⟨wr.heap.size, 2, none⟩ = some (.int .i64 u)) (first | exact ⟨x1, x2, x3⟩ | exact ⟨v1, v2, v3⟩ | exact ⟨s1, s2, s3⟩ | exact ⟨t1, t2, t3⟩)
                  (first
                    | (go_at_call 11; refine Calls.mono (hblk _) ?_; rintro e w6 ⟨rfl, hK6⟩; have hK6w := (hV nq).trans hK6; have hy6 : PlayAt w6 yb d j1 w2.heap.size sb false := (hK6w.block yb (blk_lt hmid.1) (fun e => e)).trans hmid.1; have s1 := (row6 hy6).1.2.2.2.2.1; have bx6 := (hK6w.block wr.heap.size (blk_lt bx4) (fun e => e)).trans bx4; have s2 := cell_of bx6 1 _ rfl; have s3 := cell_of bx6 2 _ rfl; obtain ⟨w7, hst7, hM7, hK7, hz7⟩ := (hmid.2.2.kp hK6w (fun e => e)).store (by omega) Try.underlying31 wt (.string bs); have hy7 : PlayAt w7 yb d j1 w2.heap.size sb false := (hK7.block yb (blk_lt hy6) hP3.nes.2.2.2.2.2.1).trans hy6; have t1 := (row6 hy7).1.2.2.2.2.1; have bx7 := (hK7.block wr.heap.size (blk_lt bx6) (by have := hP.size; omega)).trans bx6; have t2 := cell_of bx7 1 _ rfl; have t3 := cell_of bx7 2 _ rfl))
                rw [strM_put, hst0, ← hS4] at hM7
                have hdone := hP3.done hK4 hJ4 hK6w hK7 (by rw [hm4]; exact hM7) hS4 hbs hh (by omega)
                have hKf := Kp.new (hKwc.trans hK6w) hK7 (fun k e => .inr (e ▸ hPb.far.2.2.2.2.2.2))
                go_wp2_with (go_at_call 8; refine Calls.mono (num_any _ _) ?_; rintro e w13 ⟨rfl, rfl⟩)
                go_meet
                exact ⟨hKf, _, _, _, _, _, _, _, _, _, hdone, by omega⟩
        · as_aux_lemma =>
          obtain ⟨bs, hbs, hblk⟩ : ∃ bs, bs.size = 256 ∧ ∀ w', Calls Try.prog 11 #[.int .i64 u] w' (StrPost bs w') := ⟨_, by rw [strB_size, blkL_len], fun w' => blk7_any u w'⟩
          obtain ⟨⟨p0, p1, p2, p3, p4, p5⟩, z0, z1, z2, z3, z4, z5⟩ := row6 hPb.play
          have hKW := hKp.trans hKb
          have hPd := hPb.same ((kp_refl (fun _ => False) W).drew)
          go_upto_region 20 with (fail)
          go_cut [10] from 81 to 90 (fun s10 wc => PutMid w.heap.size yb d ib w2.heap.size j1 mb sb f writes S m H hm t bs wr.heap.size #[.int .i64 1, .int .i64 t, .int .i64 u, .int .i64 z] w s10 wc)
          case first =>
            have q1 : W.drew.cell? ⟨yb, 1, none⟩ = some (.pointer (some ⟨j1, 0, none⟩)) := p1
            have q2 : W.drew.cell? ⟨wr.heap.size, 1, none⟩ = some (.int .i64 t) := b1
            have q3 : W.drew.cell? ⟨wr.heap.size, 2, none⟩ = some (.int .i64 u) := b2
            go_region_held3 (fun w' => w'.cell? ⟨yb, 1, none⟩ = some (.pointer (some ⟨j1, 0, none⟩)) ∧ w'.cell? ⟨wr.heap.size, 1, none⟩ = some (.int .i64 t) ∧ w'.cell? ⟨wr.heap.size, 2, none⟩ = some (.int .i64 u)) (first | exact ⟨p1, b1, b2⟩ | exact ⟨q1, q2, q3⟩ | exact ⟨s1, s2, s3⟩ | exact ⟨t1, t2, t3⟩)
              (first
                | (go_at_call 11; refine Calls.mono (hblk _) ?_; rintro e w3 ⟨rfl, hK3⟩; have hP3 := hPd.same hK3; have s1 := (row6 hP3.play).1.2.1; have bx3 := (hK3.block wr.heap.size (blk_lt bx) (fun e => e)).trans bx; have s2 := cell_of bx3 1 _ rfl; have s3 := cell_of bx3 2 _ rfl; have hput := hP3.put t wt bs hbs)
                | (go_at_call 10; refine Calls.mono hput ?_; rintro e w4 ⟨code, S4, m4, rfl, hJ4, hK4, hway⟩; have hmid := hP3.mid hK4; have t1 := (row6 hmid.1).1.2.1; have bx4 := (hK4.block wr.heap.size (blk_lt bx3) (by have := hP.size; omega)).trans bx3; have t2 := cell_of bx4 1 _ rfl; have t3 := cell_of bx4 2 _ rfl))
            go_wp2
            go_meet
            exact ⟨code, S4, m4, w3, rfl, hP3, hKW.trans (((kp_refl _ W).drew).trans hK3), hK4, hJ4, bx4, hway⟩
          case rest =>
            obtain ⟨code, S4, m4, w3, hs10, hP3, hK3, hK4, hJ4, bx4, hway⟩ := hcut
            subst hs10
            have hmid := hP3.mid hK4
            have hmbB : ∀ k, k = mb → False ∨ w.heap.size ≤ k := fun k e => .inr (e ▸ hPb.far.2.2.2.2.2.1)
            have hKwc := Kp.new hK3 hK4 hmbB
            obtain ⟨⟨q0, q1, q2, q3, q4, q5⟩, y0, y1, y2, y3, y4, y5⟩ := row6 hmid.1
            have b14 := cell_of bx4 1 _ rfl
            have b24 := cell_of bx4 2 _ rfl
            have hlk := fun q => (hmid.2.2.kp ((kp_refl (fun _ => False) wc).drewN q) (fun e => e)).look Try.underlying31 (Try.zeroValue9 _) wt true
            have hln := fun q ty => (hmid.2.2.kp ((kp_refl (fun _ => False) wc).drewN q) (fun e => e)).len Try.underlying31 ty
            have hdq : ∀ q, Kp (fun _ => False) wc (wc.drewN q) := fun q => (kp_refl _ wc).drewN q
            clear p0 p1 p2 p3 p4 p5 z0 z1 z2 z3 z4 z5 hPd
            rcases hway with ⟨hh, rfl, rfl, rfl⟩ | ⟨hh, hSt, hm40, rfl, rfl, rfl⟩ | ⟨hh, hSt, hm40, rfl, hS4, hm4⟩ | ⟨hh, ⟨s0, hSt⟩, rfl, hS4, hm4⟩
            · have hend := hP3.unput hK4 hJ4
              have hpl := (place_cases t).resolve_right (fun h => by rw [hh] at h; exact absurd h.1 (by decide))
              have hpl2 : (decide (t < 0) = true) ∨ (decide (t < 0) = false ∧ decide ((110 : Int) ≤ t) = true) ∨ (decide (t < 0) = false ∧ decide ((110 : Int) ≤ t) = false ∧ decide ((10 : Int) ≤ t) = true ∧ decide (t < 70) = true) := by have := hpl.2; simp; omega
              clear hpl hh
              go_wp2
              go_quiet (fail)
              rcases hpl2 with e0 | ⟨e0, e1⟩ | ⟨e0, e1, e2, e3⟩
              all_goals
                go_wp2_with (go_at_call 8; refine Calls.mono (num_any _ _) ?_; rintro e w13 ⟨rfl, rfl⟩)
                go_meet
                exact ⟨hKwc.trans (hdq _), _, _, _, _, _, _, _, _, _, hend.same (hdq _), by omega⟩
            · rw [strM_none hSt] at hlk
              have g40 : decide ((40 : Int) ≤ (m4 : Int)) = true := by simp; omega
              have hend := hP3.unput hK4 hJ4
              have hpl := (place_cases t).resolve_left (fun h => by rw [hh] at h; exact absurd h.1 (by decide))
              have hpl2 : (decide (t < 0) = false ∧ decide ((110 : Int) ≤ t) = false ∧ decide ((10 : Int) ≤ t) = false) ∨ (decide (t < 0) = false ∧ decide ((110 : Int) ≤ t) = false ∧ decide ((10 : Int) ≤ t) = true ∧ decide (t < 70) = false) := by have := hpl.2; simp; omega
              clear hpl hh
              go_wp2
              go_quiet (fail)
              have hln2 := hln nq
              clear hln
              rcases hpl2 with ⟨e0, e1, e2⟩ | ⟨e0, e1, e2, e3⟩
              all_goals
                go_wp2_with (go_at_call 8; refine Calls.mono (num_any _ _) ?_; rintro e w13 ⟨rfl, rfl⟩)
                go_meet
                exact ⟨hKwc.trans (hdq _), _, _, _, _, _, _, _, _, _, hend.same (hdq _), by omega⟩
            · have hst0 : (strM S t).isSome = false := by rw [strM_none hSt]; rfl
              rw [strM_none hSt] at hlk
              have g40 : decide ((40 : Int) ≤ (m : Int)) = false := by simp; omega
              have hpl := (place_cases t).resolve_left (fun h => by rw [hh] at h; exact absurd h.1 (by decide))
              have hpl2 : (decide (t < 0) = false ∧ decide ((110 : Int) ≤ t) = false ∧ decide ((10 : Int) ≤ t) = false) ∨ (decide (t < 0) = false ∧ decide ((110 : Int) ≤ t) = false ∧ decide ((10 : Int) ≤ t) = true ∧ decide (t < 70) = false) := by have := hpl.2; simp; omega
              have hf40 := hPb.stg.few
              have hV : ∀ q, Kp (fun _ => False) wc (wc.drewN q).drew := fun q => ((kp_refl _ wc).drewN q).drew
              clear hpl
              go_wp2
              go_quiet (fail)
              rcases hpl2 with ⟨e0, e1, e2⟩ | ⟨e0, e1, e2, e3⟩
              all_goals
                go_wp2
                have v1 : (wc.drewN nq).drew.cell? ⟨yb, 4, none⟩ = some (.map (some sb)) := q4
                have v2 : (wc.drewN nq).drew.cell? ⟨wr.heap.size, 1, none⟩ = some (.int .i64 t) := b14
                have v3 : (wc.drewN nq).drew.cell? ⟨wr.heap.size, 2, none⟩ = some (.int .i64 u) := b24
                have x1 : (wc.drewN nq).cell? ⟨yb, 4, none⟩ = some (.map (some sb)) := q4
                have x2 : (wc.drewN nq).cell? ⟨wr.heap.size, 1, none⟩ = some (.int .i64 t) := b14
                have x3 : (wc.drewN nq).cell? ⟨wr.heap.size, 2, none⟩ = some (.int .i64 u) := b24
                go_region_held3 (fun w' => w'.cell? ⟨yb, 4, none⟩ = some (.map (some sb)) ∧ w'.cell? ⟨wr.heap.size, 1, none⟩ = some (.int .i64 t) ∧ w'.cell? ⟨wr.heap.size, 2, none⟩ = some (.int .i64 u)) (first | exact ⟨x1, x2, x3⟩ | exact ⟨v1, v2, v3⟩ | exact ⟨s1, s2, s3⟩ | exact ⟨t1, t2, t3⟩)
                  (first
                    | (go_at_call 11; refine Calls.mono (hblk _) ?_; rintro e w6 ⟨rfl, hK6⟩; have hK6w := (hV nq).trans hK6; have hy6 : PlayAt w6 yb d j1 w2.heap.size sb false := (hK6w.block yb (blk_lt hmid.1) (fun e => e)).trans hmid.1; have s1 := (row6 hy6).1.2.2.2.2.1; have bx6 := (hK6w.block wr.heap.size (blk_lt bx4) (fun e => e)).trans bx4; have s2 := cell_of bx6 1 _ rfl; have s3 := cell_of bx6 2 _ rfl; obtain ⟨w7, hst7, hM7, hK7, hz7⟩ := (hmid.2.2.kp hK6w (fun e => e)).store (by omega) Try.underlying31 wt (.string bs); have hy7 : PlayAt w7 yb d j1 w2.heap.size sb false := (hK7.block yb (blk_lt hy6) hP3.nes.2.2.2.2.2.1).trans hy6; have t1 := (row6 hy7).1.2.2.2.2.1; have bx7 := (hK7.block wr.heap.size (blk_lt bx6) (by have := hP.size; omega)).trans bx6; have t2 := cell_of bx7 1 _ rfl; have t3 := cell_of bx7 2 _ rfl))
                rw [strM_put, hst0, ← hS4] at hM7
                have hdone := hP3.done hK4 hJ4 hK6w hK7 (by rw [hm4]; exact hM7) hS4 hbs hh (by omega)
                have hKf := Kp.new (hKwc.trans hK6w) hK7 (fun k e => .inr (e ▸ hPb.far.2.2.2.2.2.2))
                go_wp2_with (go_at_call 8; refine Calls.mono (num_any _ _) ?_; rintro e w13 ⟨rfl, rfl⟩)
                go_meet
                exact ⟨hKf, _, _, _, _, _, _, _, _, _, hdone, by omega⟩
            · have hst0 : (strM S t).isSome = true := by rw [strM_some hSt]; rfl
              rw [strM_some hSt] at hlk
              have hpl := (place_cases t).resolve_left (fun h => by rw [hh] at h; exact absurd h.1 (by decide))
              have hpl2 : (decide (t < 0) = false ∧ decide ((110 : Int) ≤ t) = false ∧ decide ((10 : Int) ≤ t) = false) ∨ (decide (t < 0) = false ∧ decide ((110 : Int) ≤ t) = false ∧ decide ((10 : Int) ≤ t) = true ∧ decide (t < 70) = false) := by have := hpl.2; simp; omega
              have hf40 := hPb.stg.few
              have hV : ∀ q, Kp (fun _ => False) wc (wc.drewN q).drew := fun q => ((kp_refl _ wc).drewN q).drew
              clear hpl
              go_wp2
              go_quiet (fail)
              rcases hpl2 with ⟨e0, e1, e2⟩ | ⟨e0, e1, e2, e3⟩
              all_goals
                go_wp2
                have v1 : (wc.drewN nq).drew.cell? ⟨yb, 4, none⟩ = some (.map (some sb)) := q4
                have v2 : (wc.drewN nq).drew.cell? ⟨wr.heap.size, 1, none⟩ = some (.int .i64 t) := b14
                have v3 : (wc.drewN nq).drew.cell? ⟨wr.heap.size, 2, none⟩ = some (.int .i64 u) := b24
                have x1 : (wc.drewN nq).cell? ⟨yb, 4, none⟩ = some (.map (some sb)) := q4
                have x2 : (wc.drewN nq).cell? ⟨wr.heap.size, 1, none⟩ = some (.int .i64 t) := b14
                have x3 : (wc.drewN nq).cell? ⟨wr.heap.size, 2, none⟩ = some (.int .i64 u) := b24
                go_region_held3 (fun w' => w'.cell? ⟨yb, 4, none⟩ = some (.map (some sb)) ∧ w'.cell? ⟨wr.heap.size, 1, none⟩ = some (.int .i64 t) ∧ w'.cell? ⟨wr.heap.size, 2, none⟩ = some (.int .i64 u)) (first | exact ⟨x1, x2, x3⟩ | exact ⟨v1, v2, v3⟩ | exact ⟨s1, s2, s3⟩ | exact ⟨t1, t2, t3⟩)
                  (first
                    | (go_at_call 11; refine Calls.mono (hblk _) ?_; rintro e w6 ⟨rfl, hK6⟩; have hK6w := (hV nq).trans hK6; have hy6 : PlayAt w6 yb d j1 w2.heap.size sb false := (hK6w.block yb (blk_lt hmid.1) (fun e => e)).trans hmid.1; have s1 := (row6 hy6).1.2.2.2.2.1; have bx6 := (hK6w.block wr.heap.size (blk_lt bx4) (fun e => e)).trans bx4; have s2 := cell_of bx6 1 _ rfl; have s3 := cell_of bx6 2 _ rfl; obtain ⟨w7, hst7, hM7, hK7, hz7⟩ := (hmid.2.2.kp hK6w (fun e => e)).store (by omega) Try.underlying31 wt (.string bs); have hy7 : PlayAt w7 yb d j1 w2.heap.size sb false := (hK7.block yb (blk_lt hy6) hP3.nes.2.2.2.2.2.1).trans hy6; have t1 := (row6 hy7).1.2.2.2.2.1; have bx7 := (hK7.block wr.heap.size (blk_lt bx6) (by have := hP.size; omega)).trans bx6; have t2 := cell_of bx7 1 _ rfl; have t3 := cell_of bx7 2 _ rfl))
                rw [strM_put, hst0, ← hS4] at hM7
                have hdone := hP3.done hK4 hJ4 hK6w hK7 (by rw [hm4]; exact hM7) hS4 hbs hh (by omega)
                have hKf := Kp.new (hKwc.trans hK6w) hK7 (fun k e => .inr (e ▸ hPb.far.2.2.2.2.2.2))
                go_wp2_with (go_at_call 8; refine Calls.mono (num_any _ _) ?_; rintro e w13 ⟨rfl, rfl⟩)
                go_meet
                exact ⟨hKf, _, _, _, _, _, _, _, _, _, hdone, by omega⟩
        · as_aux_lemma =>
          obtain ⟨bs, hbs, hblk⟩ : ∃ bs, bs.size = 256 ∧ ∀ w', Calls Try.prog 11 #[.int .i64 u] w' (StrPost bs w') := ⟨_, by rw [strB_size, blkL_len], fun w' => blk7_any u w'⟩
          obtain ⟨⟨p0, p1, p2, p3, p4, p5⟩, z0, z1, z2, z3, z4, z5⟩ := row6 hPb.play
          have hKW := hKp.trans hKb
          have hPd := hPb.same ((kp_refl (fun _ => False) W).drew)
          go_upto_region 20 with (fail)
          go_cut [10] from 81 to 90 (fun s10 wc => PutMid w.heap.size yb d ib w2.heap.size j1 mb sb f writes S m H hm t bs wr.heap.size #[.int .i64 2, .int .i64 t, .int .i64 u, .int .i64 z] w s10 wc)
          case first =>
            have q1 : W.drew.cell? ⟨yb, 1, none⟩ = some (.pointer (some ⟨j1, 0, none⟩)) := p1
            have q2 : W.drew.cell? ⟨wr.heap.size, 1, none⟩ = some (.int .i64 t) := b1
            have q3 : W.drew.cell? ⟨wr.heap.size, 2, none⟩ = some (.int .i64 u) := b2
            go_region_held3 (fun w' => w'.cell? ⟨yb, 1, none⟩ = some (.pointer (some ⟨j1, 0, none⟩)) ∧ w'.cell? ⟨wr.heap.size, 1, none⟩ = some (.int .i64 t) ∧ w'.cell? ⟨wr.heap.size, 2, none⟩ = some (.int .i64 u)) (first | exact ⟨p1, b1, b2⟩ | exact ⟨q1, q2, q3⟩ | exact ⟨s1, s2, s3⟩ | exact ⟨t1, t2, t3⟩)
              (first
                | (go_at_call 11; refine Calls.mono (hblk _) ?_; rintro e w3 ⟨rfl, hK3⟩; have hP3 := hPd.same hK3; have s1 := (row6 hP3.play).1.2.1; have bx3 := (hK3.block wr.heap.size (blk_lt bx) (fun e => e)).trans bx; have s2 := cell_of bx3 1 _ rfl; have s3 := cell_of bx3 2 _ rfl; have hput := hP3.put t wt bs hbs)
                | (go_at_call 10; refine Calls.mono hput ?_; rintro e w4 ⟨code, S4, m4, rfl, hJ4, hK4, hway⟩; have hmid := hP3.mid hK4; have t1 := (row6 hmid.1).1.2.1; have bx4 := (hK4.block wr.heap.size (blk_lt bx3) (by have := hP.size; omega)).trans bx3; have t2 := cell_of bx4 1 _ rfl; have t3 := cell_of bx4 2 _ rfl))
            go_wp2
            go_meet
            exact ⟨code, S4, m4, w3, rfl, hP3, hKW.trans (((kp_refl _ W).drew).trans hK3), hK4, hJ4, bx4, hway⟩
          case rest =>
            obtain ⟨code, S4, m4, w3, hs10, hP3, hK3, hK4, hJ4, bx4, hway⟩ := hcut
            subst hs10
            have hmid := hP3.mid hK4
            have hmbB : ∀ k, k = mb → False ∨ w.heap.size ≤ k := fun k e => .inr (e ▸ hPb.far.2.2.2.2.2.1)
            have hKwc := Kp.new hK3 hK4 hmbB
            obtain ⟨⟨q0, q1, q2, q3, q4, q5⟩, y0, y1, y2, y3, y4, y5⟩ := row6 hmid.1
            have b14 := cell_of bx4 1 _ rfl
            have b24 := cell_of bx4 2 _ rfl
            have hlk := fun q => (hmid.2.2.kp ((kp_refl (fun _ => False) wc).drewN q) (fun e => e)).look Try.underlying31 (Try.zeroValue9 _) wt true
            have hln := fun q ty => (hmid.2.2.kp ((kp_refl (fun _ => False) wc).drewN q) (fun e => e)).len Try.underlying31 ty
            have hdq : ∀ q, Kp (fun _ => False) wc (wc.drewN q) := fun q => (kp_refl _ wc).drewN q
            clear p0 p1 p2 p3 p4 p5 z0 z1 z2 z3 z4 z5 hPd
            rcases hway with ⟨hh, rfl, rfl, rfl⟩ | ⟨hh, hSt, hm40, rfl, rfl, rfl⟩ | ⟨hh, hSt, hm40, rfl, hS4, hm4⟩ | ⟨hh, ⟨s0, hSt⟩, rfl, hS4, hm4⟩
            · have hend := hP3.unput hK4 hJ4
              have hpl := (place_cases t).resolve_right (fun h => by rw [hh] at h; exact absurd h.1 (by decide))
              have hpl2 : (decide (t < 0) = true) ∨ (decide (t < 0) = false ∧ decide ((110 : Int) ≤ t) = true) ∨ (decide (t < 0) = false ∧ decide ((110 : Int) ≤ t) = false ∧ decide ((10 : Int) ≤ t) = true ∧ decide (t < 70) = true) := by have := hpl.2; simp; omega
              clear hpl hh
              go_wp2
              go_quiet (fail)
              rcases hpl2 with e0 | ⟨e0, e1⟩ | ⟨e0, e1, e2, e3⟩
              all_goals
                go_wp2_with (go_at_call 8; refine Calls.mono (num_any _ _) ?_; rintro e w13 ⟨rfl, rfl⟩)
                go_meet
                exact ⟨hKwc.trans (hdq _), _, _, _, _, _, _, _, _, _, hend.same (hdq _), by omega⟩
            · rw [strM_none hSt] at hlk
              have g40 : decide ((40 : Int) ≤ (m4 : Int)) = true := by simp; omega
              have hend := hP3.unput hK4 hJ4
              have hpl := (place_cases t).resolve_left (fun h => by rw [hh] at h; exact absurd h.1 (by decide))
              have hpl2 : (decide (t < 0) = false ∧ decide ((110 : Int) ≤ t) = false ∧ decide ((10 : Int) ≤ t) = false) ∨ (decide (t < 0) = false ∧ decide ((110 : Int) ≤ t) = false ∧ decide ((10 : Int) ≤ t) = true ∧ decide (t < 70) = false) := by have := hpl.2; simp; omega
              clear hpl hh
              go_wp2
              go_quiet (fail)
              have hln2 := hln nq
              clear hln
              rcases hpl2 with ⟨e0, e1, e2⟩ | ⟨e0, e1, e2, e3⟩
              all_goals
                go_wp2_with (go_at_call 8; refine Calls.mono (num_any _ _) ?_; rintro e w13 ⟨rfl, rfl⟩)
                go_meet
                exact ⟨hKwc.trans (hdq _), _, _, _, _, _, _, _, _, _, hend.same (hdq _), by omega⟩
            · have hst0 : (strM S t).isSome = false := by rw [strM_none hSt]; rfl
              rw [strM_none hSt] at hlk
              have g40 : decide ((40 : Int) ≤ (m : Int)) = false := by simp; omega
              have hpl := (place_cases t).resolve_left (fun h => by rw [hh] at h; exact absurd h.1 (by decide))
              have hpl2 : (decide (t < 0) = false ∧ decide ((110 : Int) ≤ t) = false ∧ decide ((10 : Int) ≤ t) = false) ∨ (decide (t < 0) = false ∧ decide ((110 : Int) ≤ t) = false ∧ decide ((10 : Int) ≤ t) = true ∧ decide (t < 70) = false) := by have := hpl.2; simp; omega
              have hf40 := hPb.stg.few
              have hV : ∀ q, Kp (fun _ => False) wc (wc.drewN q).drew := fun q => ((kp_refl _ wc).drewN q).drew
              clear hpl
              go_wp2
              go_quiet (fail)
              rcases hpl2 with ⟨e0, e1, e2⟩ | ⟨e0, e1, e2, e3⟩
              all_goals
                go_wp2
                have v1 : (wc.drewN nq).drew.cell? ⟨yb, 4, none⟩ = some (.map (some sb)) := q4
                have v2 : (wc.drewN nq).drew.cell? ⟨wr.heap.size, 1, none⟩ = some (.int .i64 t) := b14
                have v3 : (wc.drewN nq).drew.cell? ⟨wr.heap.size, 2, none⟩ = some (.int .i64 u) := b24
                have x1 : (wc.drewN nq).cell? ⟨yb, 4, none⟩ = some (.map (some sb)) := q4
                have x2 : (wc.drewN nq).cell? ⟨wr.heap.size, 1, none⟩ = some (.int .i64 t) := b14
                have x3 : (wc.drewN nq).cell? ⟨wr.heap.size, 2, none⟩ = some (.int .i64 u) := b24
                go_region_held3 (fun w' => w'.cell? ⟨yb, 4, none⟩ = some (.map (some sb)) ∧ w'.cell? ⟨wr.heap.size, 1, none⟩ = some (.int .i64 t) ∧ w'.cell? ⟨wr.heap.size, 2, none⟩ = some (.int .i64 u)) (first | exact ⟨x1, x2, x3⟩ | exact ⟨v1, v2, v3⟩ | exact ⟨s1, s2, s3⟩ | exact ⟨t1, t2, t3⟩)
                  (first
                    | (go_at_call 11; refine Calls.mono (hblk _) ?_; rintro e w6 ⟨rfl, hK6⟩; have hK6w := (hV nq).trans hK6; have hy6 : PlayAt w6 yb d j1 w2.heap.size sb false := (hK6w.block yb (blk_lt hmid.1) (fun e => e)).trans hmid.1; have s1 := (row6 hy6).1.2.2.2.2.1; have bx6 := (hK6w.block wr.heap.size (blk_lt bx4) (fun e => e)).trans bx4; have s2 := cell_of bx6 1 _ rfl; have s3 := cell_of bx6 2 _ rfl; obtain ⟨w7, hst7, hM7, hK7, hz7⟩ := (hmid.2.2.kp hK6w (fun e => e)).store (by omega) Try.underlying31 wt (.string bs); have hy7 : PlayAt w7 yb d j1 w2.heap.size sb false := (hK7.block yb (blk_lt hy6) hP3.nes.2.2.2.2.2.1).trans hy6; have t1 := (row6 hy7).1.2.2.2.2.1; have bx7 := (hK7.block wr.heap.size (blk_lt bx6) (by have := hP.size; omega)).trans bx6; have t2 := cell_of bx7 1 _ rfl; have t3 := cell_of bx7 2 _ rfl))
                rw [strM_put, hst0, ← hS4] at hM7
                have hdone := hP3.done hK4 hJ4 hK6w hK7 (by rw [hm4]; exact hM7) hS4 hbs hh (by omega)
                have hKf := Kp.new (hKwc.trans hK6w) hK7 (fun k e => .inr (e ▸ hPb.far.2.2.2.2.2.2))
                go_wp2_with (go_at_call 8; refine Calls.mono (num_any _ _) ?_; rintro e w13 ⟨rfl, rfl⟩)
                go_meet
                exact ⟨hKf, _, _, _, _, _, _, _, _, _, hdone, by omega⟩
            · have hst0 : (strM S t).isSome = true := by rw [strM_some hSt]; rfl
              rw [strM_some hSt] at hlk
              have hpl := (place_cases t).resolve_left (fun h => by rw [hh] at h; exact absurd h.1 (by decide))
              have hpl2 : (decide (t < 0) = false ∧ decide ((110 : Int) ≤ t) = false ∧ decide ((10 : Int) ≤ t) = false) ∨ (decide (t < 0) = false ∧ decide ((110 : Int) ≤ t) = false ∧ decide ((10 : Int) ≤ t) = true ∧ decide (t < 70) = false) := by have := hpl.2; simp; omega
              have hf40 := hPb.stg.few
              have hV : ∀ q, Kp (fun _ => False) wc (wc.drewN q).drew := fun q => ((kp_refl _ wc).drewN q).drew
              clear hpl
              go_wp2
              go_quiet (fail)
              rcases hpl2 with ⟨e0, e1, e2⟩ | ⟨e0, e1, e2, e3⟩
              all_goals
                go_wp2
                have v1 : (wc.drewN nq).drew.cell? ⟨yb, 4, none⟩ = some (.map (some sb)) := q4
                have v2 : (wc.drewN nq).drew.cell? ⟨wr.heap.size, 1, none⟩ = some (.int .i64 t) := b14
                have v3 : (wc.drewN nq).drew.cell? ⟨wr.heap.size, 2, none⟩ = some (.int .i64 u) := b24
                have x1 : (wc.drewN nq).cell? ⟨yb, 4, none⟩ = some (.map (some sb)) := q4
                have x2 : (wc.drewN nq).cell? ⟨wr.heap.size, 1, none⟩ = some (.int .i64 t) := b14
                have x3 : (wc.drewN nq).cell? ⟨wr.heap.size, 2, none⟩ = some (.int .i64 u) := b24
                go_region_held3 (fun w' => w'.cell? ⟨yb, 4, none⟩ = some (.map (some sb)) ∧ w'.cell? ⟨wr.heap.size, 1, none⟩ = some (.int .i64 t) ∧ w'.cell? ⟨wr.heap.size, 2, none⟩ = some (.int .i64 u)) (first | exact ⟨x1, x2, x3⟩ | exact ⟨v1, v2, v3⟩ | exact ⟨s1, s2, s3⟩ | exact ⟨t1, t2, t3⟩)
                  (first
                    | (go_at_call 11; refine Calls.mono (hblk _) ?_; rintro e w6 ⟨rfl, hK6⟩; have hK6w := (hV nq).trans hK6; have hy6 : PlayAt w6 yb d j1 w2.heap.size sb false := (hK6w.block yb (blk_lt hmid.1) (fun e => e)).trans hmid.1; have s1 := (row6 hy6).1.2.2.2.2.1; have bx6 := (hK6w.block wr.heap.size (blk_lt bx4) (fun e => e)).trans bx4; have s2 := cell_of bx6 1 _ rfl; have s3 := cell_of bx6 2 _ rfl; obtain ⟨w7, hst7, hM7, hK7, hz7⟩ := (hmid.2.2.kp hK6w (fun e => e)).store (by omega) Try.underlying31 wt (.string bs); have hy7 : PlayAt w7 yb d j1 w2.heap.size sb false := (hK7.block yb (blk_lt hy6) hP3.nes.2.2.2.2.2.1).trans hy6; have t1 := (row6 hy7).1.2.2.2.2.1; have bx7 := (hK7.block wr.heap.size (blk_lt bx6) (by have := hP.size; omega)).trans bx6; have t2 := cell_of bx7 1 _ rfl; have t3 := cell_of bx7 2 _ rfl))
                rw [strM_put, hst0, ← hS4] at hM7
                have hdone := hP3.done hK4 hJ4 hK6w hK7 (by rw [hm4]; exact hM7) hS4 hbs hh (by omega)
                have hKf := Kp.new (hKwc.trans hK6w) hK7 (fun k e => .inr (e ▸ hPb.far.2.2.2.2.2.2))
                go_wp2_with (go_at_call 8; refine Calls.mono (num_any _ _) ?_; rintro e w13 ⟨rfl, rfl⟩)
                go_meet
                exact ⟨hKf, _, _, _, _, _, _, _, _, _, hdone, by omega⟩
        · as_aux_lemma =>
          obtain ⟨bs, hbs, hblk⟩ : ∃ bs, bs.size = 256 ∧ ∀ w', Calls Try.prog 11 #[.int .i64 u] w' (StrPost bs w') := ⟨_, by rw [strB_size, blkL_len], fun w' => blk7_any u w'⟩
          obtain ⟨⟨p0, p1, p2, p3, p4, p5⟩, z0, z1, z2, z3, z4, z5⟩ := row6 hPb.play
          have hKW := hKp.trans hKb
          have hPd := hPb.same ((kp_refl (fun _ => False) W).drew)
          go_upto_region 20 with (fail)
          go_cut [10] from 81 to 90 (fun s10 wc => PutMid w.heap.size yb d ib w2.heap.size j1 mb sb f writes S m H hm t bs wr.heap.size #[.int .i64 3, .int .i64 t, .int .i64 u, .int .i64 z] w s10 wc)
          case first =>
            have q1 : W.drew.cell? ⟨yb, 1, none⟩ = some (.pointer (some ⟨j1, 0, none⟩)) := p1
            have q2 : W.drew.cell? ⟨wr.heap.size, 1, none⟩ = some (.int .i64 t) := b1
            have q3 : W.drew.cell? ⟨wr.heap.size, 2, none⟩ = some (.int .i64 u) := b2
            go_region_held3 (fun w' => w'.cell? ⟨yb, 1, none⟩ = some (.pointer (some ⟨j1, 0, none⟩)) ∧ w'.cell? ⟨wr.heap.size, 1, none⟩ = some (.int .i64 t) ∧ w'.cell? ⟨wr.heap.size, 2, none⟩ = some (.int .i64 u)) (first | exact ⟨p1, b1, b2⟩ | exact ⟨q1, q2, q3⟩ | exact ⟨s1, s2, s3⟩ | exact ⟨t1, t2, t3⟩)
              (first
                | (go_at_call 11; refine Calls.mono (hblk _) ?_; rintro e w3 ⟨rfl, hK3⟩; have hP3 := hPd.same hK3; have s1 := (row6 hP3.play).1.2.1; have bx3 := (hK3.block wr.heap.size (blk_lt bx) (fun e => e)).trans bx; have s2 := cell_of bx3 1 _ rfl; have s3 := cell_of bx3 2 _ rfl; have hput := hP3.put t wt bs hbs)
                | (go_at_call 10; refine Calls.mono hput ?_; rintro e w4 ⟨code, S4, m4, rfl, hJ4, hK4, hway⟩; have hmid := hP3.mid hK4; have t1 := (row6 hmid.1).1.2.1; have bx4 := (hK4.block wr.heap.size (blk_lt bx3) (by have := hP.size; omega)).trans bx3; have t2 := cell_of bx4 1 _ rfl; have t3 := cell_of bx4 2 _ rfl))
            go_wp2
            go_meet
            exact ⟨code, S4, m4, w3, rfl, hP3, hKW.trans (((kp_refl _ W).drew).trans hK3), hK4, hJ4, bx4, hway⟩
          case rest =>
            obtain ⟨code, S4, m4, w3, hs10, hP3, hK3, hK4, hJ4, bx4, hway⟩ := hcut
            subst hs10
            have hmid := hP3.mid hK4
            have hmbB : ∀ k, k = mb → False ∨ w.heap.size ≤ k := fun k e => .inr (e ▸ hPb.far.2.2.2.2.2.1)
            have hKwc := Kp.new hK3 hK4 hmbB
            obtain ⟨⟨q0, q1, q2, q3, q4, q5⟩, y0, y1, y2, y3, y4, y5⟩ := row6 hmid.1
            have b14 := cell_of bx4 1 _ rfl
            have b24 := cell_of bx4 2 _ rfl
            have hlk := fun q => (hmid.2.2.kp ((kp_refl (fun _ => False) wc).drewN q) (fun e => e)).look Try.underlying31 (Try.zeroValue9 _) wt true
            have hln := fun q ty => (hmid.2.2.kp ((kp_refl (fun _ => False) wc).drewN q) (fun e => e)).len Try.underlying31 ty
            have hdq : ∀ q, Kp (fun _ => False) wc (wc.drewN q) := fun q => (kp_refl _ wc).drewN q
            clear p0 p1 p2 p3 p4 p5 z0 z1 z2 z3 z4 z5 hPd
            rcases hway with ⟨hh, rfl, rfl, rfl⟩ | ⟨hh, hSt, hm40, rfl, rfl, rfl⟩ | ⟨hh, hSt, hm40, rfl, hS4, hm4⟩ | ⟨hh, ⟨s0, hSt⟩, rfl, hS4, hm4⟩
            · have hend := hP3.unput hK4 hJ4
              have hpl := (place_cases t).resolve_right (fun h => by rw [hh] at h; exact absurd h.1 (by decide))
              have hpl2 : (decide (t < 0) = true) ∨ (decide (t < 0) = false ∧ decide ((110 : Int) ≤ t) = true) ∨ (decide (t < 0) = false ∧ decide ((110 : Int) ≤ t) = false ∧ decide ((10 : Int) ≤ t) = true ∧ decide (t < 70) = true) := by have := hpl.2; simp; omega
              clear hpl hh
              go_wp2
              go_quiet (fail)
              rcases hpl2 with e0 | ⟨e0, e1⟩ | ⟨e0, e1, e2, e3⟩
              all_goals
                go_wp2_with (go_at_call 8; refine Calls.mono (num_any _ _) ?_; rintro e w13 ⟨rfl, rfl⟩)
                go_meet
                exact ⟨hKwc.trans (hdq _), _, _, _, _, _, _, _, _, _, hend.same (hdq _), by omega⟩
            · rw [strM_none hSt] at hlk
              have g40 : decide ((40 : Int) ≤ (m4 : Int)) = true := by simp; omega
              have hend := hP3.unput hK4 hJ4
              have hpl := (place_cases t).resolve_left (fun h => by rw [hh] at h; exact absurd h.1 (by decide))
              have hpl2 : (decide (t < 0) = false ∧ decide ((110 : Int) ≤ t) = false ∧ decide ((10 : Int) ≤ t) = false) ∨ (decide (t < 0) = false ∧ decide ((110 : Int) ≤ t) = false ∧ decide ((10 : Int) ≤ t) = true ∧ decide (t < 70) = false) := by have := hpl.2; simp; omega
              clear hpl hh
              go_wp2
              go_quiet (fail)
              have hln2 := hln nq
              clear hln
              rcases hpl2 with ⟨e0, e1, e2⟩ | ⟨e0, e1, e2, e3⟩
              all_goals
                go_wp2_with (go_at_call 8; refine Calls.mono (num_any _ _) ?_; rintro e w13 ⟨rfl, rfl⟩)
                go_meet
                exact ⟨hKwc.trans (hdq _), _, _, _, _, _, _, _, _, _, hend.same (hdq _), by omega⟩
            · have hst0 : (strM S t).isSome = false := by rw [strM_none hSt]; rfl
              rw [strM_none hSt] at hlk
              have g40 : decide ((40 : Int) ≤ (m : Int)) = false := by simp; omega
              have hpl := (place_cases t).resolve_left (fun h => by rw [hh] at h; exact absurd h.1 (by decide))
              have hpl2 : (decide (t < 0) = false ∧ decide ((110 : Int) ≤ t) = false ∧ decide ((10 : Int) ≤ t) = false) ∨ (decide (t < 0) = false ∧ decide ((110 : Int) ≤ t) = false ∧ decide ((10 : Int) ≤ t) = true ∧ decide (t < 70) = false) := by have := hpl.2; simp; omega
              have hf40 := hPb.stg.few
              have hV : ∀ q, Kp (fun _ => False) wc (wc.drewN q).drew := fun q => ((kp_refl _ wc).drewN q).drew
              clear hpl
              go_wp2
              go_quiet (fail)
              rcases hpl2 with ⟨e0, e1, e2⟩ | ⟨e0, e1, e2, e3⟩
              all_goals
                go_wp2
                have v1 : (wc.drewN nq).drew.cell? ⟨yb, 4, none⟩ = some (.map (some sb)) := q4
                have v2 : (wc.drewN nq).drew.cell? ⟨wr.heap.size, 1, none⟩ = some (.int .i64 t) := b14
                have v3 : (wc.drewN nq).drew.cell? ⟨wr.heap.size, 2, none⟩ = some (.int .i64 u) := b24
                have x1 : (wc.drewN nq).cell? ⟨yb, 4, none⟩ = some (.map (some sb)) := q4
                have x2 : (wc.drewN nq).cell? ⟨wr.heap.size, 1, none⟩ = some (.int .i64 t) := b14
                have x3 : (wc.drewN nq).cell? ⟨wr.heap.size, 2, none⟩ = some (.int .i64 u) := b24
                go_region_held3 (fun w' => w'.cell? ⟨yb, 4, none⟩ = some (.map (some sb)) ∧ w'.cell? ⟨wr.heap.size, 1, none⟩ = some (.int .i64 t) ∧ w'.cell? ⟨wr.heap.size, 2, none⟩ = some (.int .i64 u)) (first | exact ⟨x1, x2, x3⟩ | exact ⟨v1, v2, v3⟩ | exact ⟨s1, s2, s3⟩ | exact ⟨t1, t2, t3⟩)
                  (first
                    | (go_at_call 11; refine Calls.mono (hblk _) ?_; rintro e w6 ⟨rfl, hK6⟩; have hK6w := (hV nq).trans hK6; have hy6 : PlayAt w6 yb d j1 w2.heap.size sb false := (hK6w.block yb (blk_lt hmid.1) (fun e => e)).trans hmid.1; have s1 := (row6 hy6).1.2.2.2.2.1; have bx6 := (hK6w.block wr.heap.size (blk_lt bx4) (fun e => e)).trans bx4; have s2 := cell_of bx6 1 _ rfl; have s3 := cell_of bx6 2 _ rfl; obtain ⟨w7, hst7, hM7, hK7, hz7⟩ := (hmid.2.2.kp hK6w (fun e => e)).store (by omega) Try.underlying31 wt (.string bs); have hy7 : PlayAt w7 yb d j1 w2.heap.size sb false := (hK7.block yb (blk_lt hy6) hP3.nes.2.2.2.2.2.1).trans hy6; have t1 := (row6 hy7).1.2.2.2.2.1; have bx7 := (hK7.block wr.heap.size (blk_lt bx6) (by have := hP.size; omega)).trans bx6; have t2 := cell_of bx7 1 _ rfl; have t3 := cell_of bx7 2 _ rfl))
                rw [strM_put, hst0, ← hS4] at hM7
                have hdone := hP3.done hK4 hJ4 hK6w hK7 (by rw [hm4]; exact hM7) hS4 hbs hh (by omega)
                have hKf := Kp.new (hKwc.trans hK6w) hK7 (fun k e => .inr (e ▸ hPb.far.2.2.2.2.2.2))
                go_wp2_with (go_at_call 8; refine Calls.mono (num_any _ _) ?_; rintro e w13 ⟨rfl, rfl⟩)
                go_meet
                exact ⟨hKf, _, _, _, _, _, _, _, _, _, hdone, by omega⟩
            · have hst0 : (strM S t).isSome = true := by rw [strM_some hSt]; rfl
              rw [strM_some hSt] at hlk
              have hpl := (place_cases t).resolve_left (fun h => by rw [hh] at h; exact absurd h.1 (by decide))
              have hpl2 : (decide (t < 0) = false ∧ decide ((110 : Int) ≤ t) = false ∧ decide ((10 : Int) ≤ t) = false) ∨ (decide (t < 0) = false ∧ decide ((110 : Int) ≤ t) = false ∧ decide ((10 : Int) ≤ t) = true ∧ decide (t < 70) = false) := by have := hpl.2; simp; omega
              have hf40 := hPb.stg.few
              have hV : ∀ q, Kp (fun _ => False) wc (wc.drewN q).drew := fun q => ((kp_refl _ wc).drewN q).drew
              clear hpl
              go_wp2
              go_quiet (fail)
              rcases hpl2 with ⟨e0, e1, e2⟩ | ⟨e0, e1, e2, e3⟩
              all_goals
                go_wp2
                have v1 : (wc.drewN nq).drew.cell? ⟨yb, 4, none⟩ = some (.map (some sb)) := q4
                have v2 : (wc.drewN nq).drew.cell? ⟨wr.heap.size, 1, none⟩ = some (.int .i64 t) := b14
                have v3 : (wc.drewN nq).drew.cell? ⟨wr.heap.size, 2, none⟩ = some (.int .i64 u) := b24
                have x1 : (wc.drewN nq).cell? ⟨yb, 4, none⟩ = some (.map (some sb)) := q4
                have x2 : (wc.drewN nq).cell? ⟨wr.heap.size, 1, none⟩ = some (.int .i64 t) := b14
                have x3 : (wc.drewN nq).cell? ⟨wr.heap.size, 2, none⟩ = some (.int .i64 u) := b24
                go_region_held3 (fun w' => w'.cell? ⟨yb, 4, none⟩ = some (.map (some sb)) ∧ w'.cell? ⟨wr.heap.size, 1, none⟩ = some (.int .i64 t) ∧ w'.cell? ⟨wr.heap.size, 2, none⟩ = some (.int .i64 u)) (first | exact ⟨x1, x2, x3⟩ | exact ⟨v1, v2, v3⟩ | exact ⟨s1, s2, s3⟩ | exact ⟨t1, t2, t3⟩)
                  (first
                    | (go_at_call 11; refine Calls.mono (hblk _) ?_; rintro e w6 ⟨rfl, hK6⟩; have hK6w := (hV nq).trans hK6; have hy6 : PlayAt w6 yb d j1 w2.heap.size sb false := (hK6w.block yb (blk_lt hmid.1) (fun e => e)).trans hmid.1; have s1 := (row6 hy6).1.2.2.2.2.1; have bx6 := (hK6w.block wr.heap.size (blk_lt bx4) (fun e => e)).trans bx4; have s2 := cell_of bx6 1 _ rfl; have s3 := cell_of bx6 2 _ rfl; obtain ⟨w7, hst7, hM7, hK7, hz7⟩ := (hmid.2.2.kp hK6w (fun e => e)).store (by omega) Try.underlying31 wt (.string bs); have hy7 : PlayAt w7 yb d j1 w2.heap.size sb false := (hK7.block yb (blk_lt hy6) hP3.nes.2.2.2.2.2.1).trans hy6; have t1 := (row6 hy7).1.2.2.2.2.1; have bx7 := (hK7.block wr.heap.size (blk_lt bx6) (by have := hP.size; omega)).trans bx6; have t2 := cell_of bx7 1 _ rfl; have t3 := cell_of bx7 2 _ rfl))
                rw [strM_put, hst0, ← hS4] at hM7
                have hdone := hP3.done hK4 hJ4 hK6w hK7 (by rw [hm4]; exact hM7) hS4 hbs hh (by omega)
                have hKf := Kp.new (hKwc.trans hK6w) hK7 (fun k e => .inr (e ▸ hPb.far.2.2.2.2.2.2))
                go_wp2_with (go_at_call 8; refine Calls.mono (num_any _ _) ?_; rintro e w13 ⟨rfl, rfl⟩)
                go_meet
                exact ⟨hKf, _, _, _, _, _, _, _, _, _, hdone, by omega⟩
        · as_aux_lemma =>
          have hcm := hPb.commit (by omega) z
          go_wp2_with (go_at_call 12; refine Calls.mono hcm ?_; rintro e w5 ⟨f5, cut5, writes5, j5, mb5, sb5, H5, hm5, rfl, hP5, hc5, hK5, hm5'⟩; obtain rfl : cut5 = false := hc5 rfl)
          go_meet
          case rel => exact ⟨Kp.new (hKp.trans hKb) hK5 (fun k e => .inr e), _, _, _, _, _, _, _, _, _, hP5, by omega⟩
        · as_aux_lemma =>
          have hdr := hPb.drop (B := w.heap.size) hWs
          obtain ⟨⟨p0, p1, p2, p3, p4, p5⟩, z0, z1, z2, z3, z4, z5⟩ := row6 hPb.play
          go_wp2_with (first
            | (go_at_call 13; refine Calls.mono hdr ?_; rintro e w5 ⟨rfl, ⟨j5, mb5, f5, writes5, hP5⟩, ⟨sb6, j6, hy5⟩, hK5⟩; obtain ⟨⟨q0, q1, q2, q3, q4, q5⟩, y0, y1, y2, y3, y4, y5⟩ := row6 hy5; have hyl := blk_lt hy5)
            | (go_at_call 8; refine Calls.mono (num_any _ _) ?_; rintro e w13 ⟨rfl, rfl⟩))
          go_meet
          case rel => exact ⟨Kp.new (Kp.new (hKp.trans hKb) hK5 (fun k e => .inr e)) (stage_play hy5).2.2 (fun k e => .inr (e ▸ hPb.far.1)), _, _, _, _, _, _, _, _, _, hP5, by omega⟩
        · as_aux_lemma =>
          obtain ⟨⟨p0, p1, p2, p3, p4, p5⟩, z0, z1, z2, z3, z4, z5⟩ := row6 hPb.play
          have hKd : ∀ q, Kp (fun _ => False) W (W.drewN q) := fun q => (kp_refl _ W).drewN q
          have hfin : ∀ wc, Kp (fun _ => False) W wc → LawMid w yb d ib w2.heap.size i wc := fun wc hK => ⟨(hKp.trans hKb).trans hK, _, _, _, _, _, _, _, _, _, hPb.same hK, by omega⟩
          rcases place_cases t with ⟨hh, hpl⟩ | ⟨hh, hpl⟩
          · have hrd : ∀ q, Calls Try.prog 14 #[.pointer (some ⟨j1, 0, none⟩), .int .i64 t] (W.drewN q) (QText ByteArray.empty 703 (W.drewN q)) := fun q => by
              have := (hPb.same (hKd q)).read t wt
              rw [hh] at this
              exact this
            have hpl2 : (decide (t < 0) = true) ∨ (decide (t < 0) = false ∧ decide ((110 : Int) ≤ t) = true) ∨ (decide (t < 0) = false ∧ decide ((110 : Int) ≤ t) = false ∧ decide ((10 : Int) ≤ t) = true ∧ decide (t < 70) = true) := by simp; omega
            clear hpl hh
            rcases hpl2 with e0 | ⟨e0, e1⟩ | ⟨e0, e1, e2, e3⟩
            all_goals
              go_wp2
              go_quiet ((go_at_call 14; exact Calls.quiet_of (hrd _)))
              go_wp2_with (go_at_call 8; refine Calls.mono (num_any _ _) ?_; rintro e w13 ⟨rfl, rfl⟩)
              go_meet
              exact hfin _ (hKd _)
          · obtain ⟨sx, hsx⟩ : ∃ sx, atS S H t = sx := ⟨_, rfl⟩
            have hrd : ∀ q, Calls Try.prog 14 #[.pointer (some ⟨j1, 0, none⟩), .int .i64 t] (W.drewN q) (QText sx 0 (W.drewN q)) := fun q => by
              have := (hPb.same (hKd q)).read t wt
              rw [hh, hsx] at this
              exact this
            have hat : ∀ q, Calls Try.prog 15 #[.pointer (some ⟨yb, 0, none⟩), .int .i64 t] (W.drewN q) (StrPost sx (W.drewN q)) := fun q => by
              have := (hPb.same (hKd q)).ats t wt
              rw [hsx] at this
              exact this
            have hpl2 : (decide (t < 0) = false ∧ decide ((110 : Int) ≤ t) = false ∧ decide ((10 : Int) ≤ t) = false) ∨ (decide (t < 0) = false ∧ decide ((110 : Int) ≤ t) = false ∧ decide ((10 : Int) ≤ t) = true ∧ decide (t < 70) = false) := by simp; omega
            clear hpl hh hsx
            rcases hpl2 with ⟨e0, e1, e2⟩ | ⟨e0, e1, e2, e3⟩
            all_goals
              go_wp2
              go_quiet ((go_at_call 14; exact Calls.quiet_of (hrd _)))
              go_wp2_with (first
                | (go_at_call 8; refine Calls.mono (num_any _ _) ?_; rintro e w13 ⟨rfl, rfl⟩)
                | (go_at_call 15; refine Calls.mono (hat _) ?_; rintro e w14 ⟨rfl, hK14⟩))
              go_meet
              exact hfin _ ((hKd _).trans hK14)
        · as_aux_lemma =>
          obtain ⟨zz, hzz, h0z⟩ : ∃ zz, bits .and .i64 z 127 = zz ∧ 0 ≤ zz ∧ zz < 128 := ⟨_, rfl, by rw [i64_and127]; omega⟩
          obtain ⟨⟨p0, p1, p2, p3, p4, p5⟩, z0, z1, z2, z3, z4, z5⟩ := row6 hPb.play
          have hPd := hPb.same ((kp_refl (fun _ => False) _).drew)
          have hct := hPd.cuts (1 + zz) (by omega)
          go_wp2
          go_still_tail 8, (by kernel_rfl)
          change wpList _ _ _ _ _ W.drew
          have hdB : w.heap.size ≤ d := hPb.far.2.1
          have hdr : wr.heap.size ≠ d := by have := hP.size.2.1; omega
          have hmm : m = 0 ∨ m ≠ 0 := by omega
          have hKa : Kp (fun _ => False) w W.drew := (hKp.trans hKb).trans ((kp_refl _ W).drew)
          have hdF : ∀ k, k = d → False ∨ w.heap.size ≤ k := fun k e => .inr (e ▸ hdB)
          rcases hmm with rfl | hm0
          all_goals
            go_wp2_with (first
              | (go_at_call 16; refine Calls.mono hct ?_; rintro e w5 ⟨rfl, hP5, hK5⟩; clear hct; replace hKa := Kp.new hKa hK5 hdF; obtain ⟨⟨q0, q1, q2, q3, q4, q5⟩, y0, y1, y2, y3, y4, y5⟩ := row6 hP5.play; have bx5 := (hK5.block wr.heap.size (blk_lt bx) hdr).trans bx; have b35 := cell_of bx5 3 _ rfl; have hln5 := fun ty => hP5.stage.len Try.underlying31 ty; have hon := hP5.on; have hcm5 := hP5.commit (by omega) z)
              | (go_at_call 12; refine Calls.mono hcm5 ?_; rintro e w6 ⟨f6, cut6, writes6, j6, mb6, sb6, H6, hm6, rfl, hP6, hc6, hK6, hm6'⟩; replace hKa := Kp.new hKa hK6 (fun k e => .inr e); obtain ⟨⟨i0, i1, i2, i3, i4, i5⟩, l0, l1, l2, l3, l4, l5⟩ := row6 hP6.play; clear hon hcm5; have hon := hP6.on)
              | (go_at_call 17; refine Calls.mono hon ?_; clear hon; rintro e w7 ⟨rfl, hP7, hK7⟩; replace hKa := Kp.new hKa hK7 hdF; obtain ⟨⟨o0, o1, o2, o3, o4, o5⟩, x0, x1, x2, x3, x4, x5⟩ := row6 hP7.play; have hon := hP7.on))
            go_meet
            exact ⟨hKa, _, _, _, _, _, _, _, _, _, hP7, by omega⟩
        · as_aux_lemma =>
          have hop := hPb.opens (B := w.heap.size) hWs
          obtain ⟨⟨p0, p1, p2, p3, p4, p5⟩, z0, z1, z2, z3, z4, z5⟩ := row6 hPb.play
          go_wp2_with (first
            | (go_at_call 18; refine Calls.mono hop ?_; rintro e w5 ⟨j5, rfl, ⟨mb5, f5, writes5, hP5⟩, ⟨sb6, j6, hy5⟩, hK5⟩; obtain ⟨⟨q0, q1, q2, q3, q4, q5⟩, y0, y1, y2, y3, y4, y5⟩ := row6 hy5; have hyl := blk_lt hy5)
            | (go_at_call 8; refine Calls.mono (num_any _ _) ?_; rintro e w13 ⟨rfl, rfl⟩))
          go_meet
          case rel => exact ⟨Kp.new (Kp.new (hKp.trans hKb) hK5 (fun k e => .inr e)) (fresh_kp _ yb j5) (fun k e => .inr (e ▸ hPb.far.1)), _, _, _, _, _, _, _, _, _, hP5, by omega⟩
      case rest =>
        obtain ⟨hKc, j5, mb5, sb5, f5, writes5, S5, m5, H5, hm5, hP5, hm5'⟩ := hcut
        obtain ⟨⟨p0, p1, p2, p3, p4, p5⟩, z0, z1, z2, z3, z4, z5⟩ := row6 hP5.play
        as_aux_lemma =>
        have hPd := hP5.same ((kp_refl (fun _ => False) wc).drew)
        have hsg := hPd.staged
        have hhs := hPd.homes
        have hl0 := hP5.stage.len Try.underlying31 3
        have hl1 := hPd.stage.len Try.underlying31 3
        have v1 : wc.drew.cell? ⟨yb, 1, none⟩ = some (.pointer (some ⟨j5, 0, none⟩)) := p1
        have v4 : wc.drew.cell? ⟨yb, 4, none⟩ = some (.map (some sb5)) := p4
        have hfin : ∀ w7, Kp (fun _ => False) wc.drew w7 → LawRel w yb d ib w2.heap.size (i + 1) w7 := fun w7 hK7 => ⟨by omega, hKc.trans (((kp_refl _ wc).drew).trans hK7), _, _, _, _, _, _, _, _, _, hPd.same hK7, hm5'⟩
        go_wp2
        go_region_held3 (fun w' => w'.cell? ⟨yb, 1, none⟩ = some (.pointer (some ⟨j5, 0, none⟩)) ∧ w'.cell? ⟨yb, 4, none⟩ = some (.map (some sb5)) ∧ (Builtin.len_ #[31] 3 #[.map (some sb5)]).run Try.prog w' = .ok (.int .i64 m5) w' ∧ Kp (fun _ => False) wc w') (first | exact ⟨p1, p4, hl0, kp_refl _ _⟩ | exact ⟨v1, v4, hl1, (kp_refl _ wc).drew⟩ | exact ⟨s1, s4, s9, hKs⟩)
          (first
            | (go_at_call 19; refine Calls.mono hsg ?_; rintro e w6 ⟨rfl, rfl⟩)
            | (go_at_call 9; refine Calls.mono hhs ?_; rintro e w7 ⟨rfl, hK7⟩; have s1 := (row6 (hPd.same hK7).play).1.2.1; have s4 := (row6 (hPd.same hK7).play).1.2.2.2.2.1; have s9 := (hPd.same hK7).stage.len Try.underlying31 3; have hKs := ((kp_refl (fun _ => False) wc).drew).trans hK7))
        go_wp2
        exact ⟨⟨i + 1, by simp, hfin _ hK7⟩, by simp [RowKit.intOf]; omega⟩
    · as_aux_lemma =>
      have haw := hawake wr hKp
      have g1 : ¬ i < n ∨ (i < n ∧ decide ((i : Int) < 120) = false) := by simp; omega
      clear hlt
      rcases g1 with g1 | ⟨g1, g2⟩
      all_goals
        go_wp2_with (go_at_call 20; refine Calls.mono haw ?_; rintro e w6 ⟨rfl, hK6⟩)
        go_ret
        exact ⟨rfl, hKp.trans hK6⟩
end Go.Proofs.Ytkcclaljhedmjaa

/- CacheSteps: the other kinds; the law. No conditions. -/
import Derived.Test.YtkcclaljhedmjaaKE
import Derived.Test.YtkcclaljhedmjaaKD
import Derived.Lib.Hide
import Derived.StillTailTactics
import Derived.Deep.QuietTactic
import Derived.BigQuiet
import Derived.Test.YtkcclaljhedmjaaKF
import Derived.Test.YtkcclaljhedmjaaKG
import Derived.Test.YtkcclaljhedmjaaC9
namespace Go.Proofs.Ytkcclaljhedmjaa
section
open Go.RowKit Go.Maps Go.Lib
section
variable {B yb cb j hb d ib mb size hh pp : Nat} {w w' : World} {dd : Nat} {v : Value} {ring : List Nat} {X : Nat → Hb} {f : Nat → List Nat} {writes : Int} {D : Nat → Option ByteArray} {P : Nat → Nat} {H : Int → Option ByteArray} {hm dm pm : Nat} {Dm : Nat → Option ByteArray} {Pm : Nat → Nat} {hf : Nat → List Nat}
set_option maxHeartbeats 4000000 in
set_option maxRecDepth 100000 in
theorem step_flush6 (h : QSt B yb cb j hb d ib mb size hh pp w dd v ring X f writes D P H hm dm pm) {bnd : Nat} (hh1 : hm ≤ 40 * bnd) (hp1 : ∀ k, P k ≤ bnd) (hbnd : bnd ≤ 1000) {at_ by_ : Int} (hw : (Lit.int .i64 at_).wf = true) : Calls Try.prog 22 #[.pointer (some ⟨yb, 0, none⟩), .agg #[.int .i64 6, .int .i64 at_, .int .i64 by_]] w (StepQ B yb cb j hb d ib mb size hh pp (bnd + 1) w) := by
  have bx := heap_alloc_new w (.cells #[.int .i64 6, .int .i64 at_, .int .i64 by_] 59)
  have hKx := kp_alloc (fun _ => False) w (.cells #[.int .i64 6, .int .i64 at_, .int .i64 by_] 59)
  have h1 := h.same hKx
  have hbusy := busy_any h1.play h1.dirt h1.pins (by have := h.few; omega) (by have := h.few; omega) hw
  obtain ⟨⟨p0, p1, p2, p3, p4⟩, z0, z1, z2, z3, z4⟩ := row5 h1.play
  obtain ⟨⟨b0, b1, b2⟩, c0, c1, c2⟩ := row3 bx
  go_enter Try.func22, Try.ntmps22
  go_upto_region 1 with (fail)
  generalize w.alloc (.cells #[.int .i64 6, .int .i64 at_, .int .i64 by_] 59) = W at *
  go_cut [5] from 18 to 25 (fun s5 wc => s5 = .bool (placeB at_) ∧ wc = W)
  case first =>
    rcases place8 at_ with ⟨e1, e2, e3⟩ | ⟨e1, e3⟩ | ⟨e1, e2, e3⟩
    all_goals
      go_wp2
      go_meet
      exact ⟨by rw [e3], rfl⟩
  case rest =>
    obtain ⟨rfl, rfl⟩ := hcut
    go_upto_block 0 with (go_at_call 45; refine Calls.mono hbusy ?_; clear hbusy; rintro e w2 ⟨n, rfl, hB, hK2⟩)
    have h2 := h1.same hK2
    have bx2 := (hK2.block w.heap.size (blk_lt bx) fun e => e).trans bx
    clear p0 p1 p2 p3 p4 z0 z1 z2 z3 z4 b0 b1 b2 c0 c1 c2
    obtain ⟨⟨p0, p1, p2, p3, p4⟩, z0, z1, z2, z3, z4⟩ := row5 h2.play
    obtain ⟨⟨b0, b1, b2⟩, c0, c1, c2⟩ := row3 bx2
    go_cut [8] from 33 to 56 (fun _ wc => wc = w2)
    case first =>
      go_wp2
      go_meet
      exact rfl
    case rest =>
      subst hcut
      have hKw : Kp (fun _ => False) w wc := hKx.trans hK2
      have hKd : Kp (fun _ => False) wc wc.drew := (kp_refl _ wc).drew
      have hfl := qflush h2
      have hlen := fun ty => h2.dirt.len Try.underlying31 ty
      have hfar := h.far
      have hfew := h.few
      have hBw : B ≤ w.heap.size := Nat.le_trans hfar.1.1 (Nat.le_of_lt (blk_lt h.play))
      clear hB
      go_wp2_with (go_at_call 28; refine Calls.mono hfl ?_; clear hfl; rintro e w4 (⟨h40, rfl, hK4⟩ | ⟨h40, rfl, hK4, X4, f4, writes4, hW⟩); have g1 : decide ((40 : Int) < (dm : Int)) = true := (by simp; omega); have hW := h2.same hK4; have hln4 := (fun ty => hW.dirt.len Try.underlying31 ty); obtain ⟨⟨q0, q1, q2, q3, q4⟩, y0, y1, y2, y3, y4⟩ := row5 hW.play; rotate_left; have g1 : decide ((40 : Int) < (dm : Int)) = false := (by simp; omega); have hln4 := (fun ty => hW.dirt.len Try.underlying31 ty); obtain ⟨⟨q0, q1, q2, q3, q4⟩, y0, y1, y2, y3, y4⟩ := row5 hW.play; obtain ⟨w5, hrg, hRA, hK5, hz5⟩ := hW.dirt.range Try.underlying31)
      rotate_left
      · have hend : StepQ B yb cb j hb d ib mb size hh pp (bnd + 1) w (.returned (.bool true)) w4 := ⟨rfl, (hKw.trans hK4).imp fun _ e => e.elim, _, _, _, _, _, _, _, _, _, _, _, _, hW, by omega, fun k => Nat.le_succ_of_le (hp1 k)⟩
        go_wp2_with (go_at_call 8; refine Calls.mono (num_any _ _) ?_; rintro e w13 ⟨rfl, rfl⟩)
        go_ret
        exact hend
      · have hK4' := Fr.far hK4
        have hKw4 : Kp (fun i => B ≤ i) w w4 := (hKw.imp fun _ e => e.elim).trans hK4'
        have hs4 := hKw4.size
        have hrel0 : FlushRel B yb cb j hb d ib mb size hh pp dd v ring X4 f4 writes4 D P H hm dm pm w4.heap.size w w5 := ⟨_, _, hm, hRA, by rw [mix_start]; exact hW.same hK5, hKw4.trans (hK5.imp fun _ e => e.elim), Nat.le_refl _⟩
        clear hRA hK5
        go_wp2
        go_loopw [] (fun wr => FlushRel B yb cb j hb d ib mb size hh pp dd v ring X4 f4 writes4 D P H hm dm pm w4.heap.size w wr) (fun wr => wr.rangeLeft dd w4.heap.size)
        case atStart => exact hrel0
        case round =>
          obtain ⟨left, cnt, hm2, hRA, hA, hKr, hcnt⟩ := hrel
          clear q0 q1 q2 q3 q4 y0 y1 y2 y3 y4
          obtain ⟨⟨q0, q1, q2, q3, q4⟩, y0, y1, y2, y3, y4⟩ := row5 hA.play
          rcases hRA.next 0 with ⟨h0, hl0, hnx⟩ | ⟨kk, u, w12, cnt2, hkw, hlk, hSv, hnx, hRA2, hlt2, hK12, hz12, hen⟩
          · have hsz := hKr.size
            obtain ⟨hN, hKN⟩ := hA.newDirt (Nat.le_trans hBw hsz)
            rw [← mix_end hl0] at hN
            have hend : StepQ B yb cb j hb d ib mb size hh pp (bnd + 1) w (.returned (.bool true)) (dirtW wr yb) := ⟨rfl, hKr.trans (hKN.imp fun i e => by rw [e]; exact hfar.1.1), _, _, _, _, _, _, _, _, _, _, _, _, hN, by omega, fun k => Nat.le_succ_of_le (hp1 k)⟩
            have hmm := fun w => run_makeMap (P := Try.prog) 31 w
            have hyl := blk_lt hA.play
            clear hN hRA hA
            go_wp2_with (go_at_call 8; refine Calls.mono (num_any _ _) ?_; rintro e w13 ⟨rfl, rfl⟩)
            go_ret
            exact hend
          · obtain ⟨s, hs⟩ : ∃ s, dS D kk = some s := by
              unfold strM at hSv
              obtain ⟨s, hs, _⟩ := Option.map_eq_some_iff.1 hSv
              exact ⟨s, hs⟩
            obtain rfl : u = .string s := by rw [strM_some hs] at hSv; exact (Option.some.inj hSv).symm
            have hA12 := hA.iter hRA hK12
            obtain ⟨w14, hst, hM14, hK14, hz14⟩ := hA12.home.store (by omega) Try.underlying31 hkw (.string s)
            rw [strM_put, mix_step hs] at hM14
            have hA14 := hA12.setHome hM14 hK14
            obtain ⟨⟨i0, i1, i2, i3, i4⟩, l0, l1, l2, l3, l4⟩ := row5 hA12.play
            have hRA14 := hRA2.kp hK14 hA.ne.2.1.2.2 (fun e => range_map hRA2 hA12.home e)
            have hKe : Kp (fun i => B ≤ i) w w14 := (hKr.trans (hK12.imp fun i e => by omega)).trans (hK14.imp fun i e => by rw [e]; exact hfar.2.2.1)
            have hm1 := hRA.left_is
            have hm2 := hRA14.left_is
            clear hA hA12 hRA
            go_wp2
            exact ⟨⟨_, cnt2, _, hRA14, hA14, hKe, by split <;> omega⟩, by rw [hm1, hm2]; exact hlt2⟩
end
end
section
open Go.RowKit Go.Maps Go.Lib
section
variable {B yb cb j hb d ib mb size hh pp : Nat} {w w' : World} {dd : Nat} {v : Value} {ring : List Nat} {X : Nat → Hb} {f : Nat → List Nat} {writes : Int} {D : Nat → Option ByteArray} {P : Nat → Nat} {H : Int → Option ByteArray} {hm dm pm : Nat} {Dm : Nat → Option ByteArray} {Pm : Nat → Nat} {hf : Nat → List Nat}
set_option maxHeartbeats 4000000 in
set_option maxRecDepth 100000 in
theorem step_forget (h : QSt B yb cb j hb d ib mb size hh pp w dd v ring X f writes D P H hm dm pm) {bnd : Nat} (hh1 : hm ≤ 40 * bnd) (hp1 : ∀ k, P k ≤ bnd) {kd at_ by_ : Int} (hw : (Lit.int .i64 at_).wf = true) (hkd : kd ≠ 0 ∧ kd ≠ 1 ∧ kd ≠ 2 ∧ kd ≠ 3 ∧ kd ≠ 4 ∧ kd ≠ 5 ∧ kd ≠ 6) : Calls Try.prog 22 #[.pointer (some ⟨yb, 0, none⟩), .agg #[.int .i64 kd, .int .i64 at_, .int .i64 by_]] w (StepQ B yb cb j hb d ib mb size hh pp (bnd + 1) w) := by
  have g0 : (kd == 0) = false := by simp; omega
  have g1 : (kd == 1) = false := by simp; omega
  have g2 : (kd == 2) = false := by simp; omega
  have g3 : (kd == 3) = false := by simp; omega
  have g4 : (kd == 4) = false := by simp; omega
  have g5 : (kd == 5) = false := by simp; omega
  have g6 : (kd == 6) = false := by simp; omega
  have hk4 := Lib.hid (show decide (kd ≤ 4) = true ∨ decide (kd ≤ 4) = false by cases decide (kd ≤ 4) <;> simp)
  clear hkd
  have bx := heap_alloc_new w (.cells #[.int .i64 kd, .int .i64 at_, .int .i64 by_] 59)
  have hKx := kp_alloc (fun _ => False) w (.cells #[.int .i64 kd, .int .i64 at_, .int .i64 by_] 59)
  have h1 := h.same hKx
  have hbusy := busy_any h1.play h1.dirt h1.pins (by have := h.few; omega) (by have := h.few; omega) hw
  obtain ⟨⟨p0, p1, p2, p3, p4⟩, z0, z1, z2, z3, z4⟩ := row5 h1.play
  obtain ⟨⟨b0, b1, b2⟩, c0, c1, c2⟩ := row3 bx
  go_enter Try.func22, Try.ntmps22
  go_upto_region 1 with (fail)
  generalize w.alloc (.cells #[.int .i64 kd, .int .i64 at_, .int .i64 by_] 59) = W at *
  go_cut [5] from 18 to 25 (fun s5 wc => s5 = .bool (placeB at_) ∧ wc = W)
  case first =>
    rcases place8 at_ with ⟨e1, e2, e3⟩ | ⟨e1, e3⟩ | ⟨e1, e2, e3⟩
    all_goals
      go_wp2
      go_meet
      exact ⟨by rw [e3], rfl⟩
  case rest =>
    obtain ⟨rfl, rfl⟩ := hcut
    go_upto_block 0 with (go_at_call 45; refine Calls.mono hbusy ?_; clear hbusy; rintro e w2 ⟨n, rfl, hB, hK2⟩)
    have h2 := h1.same hK2
    have bx2 := (hK2.block w.heap.size (blk_lt bx) fun e => e).trans bx
    clear p0 p1 p2 p3 p4 z0 z1 z2 z3 z4 b0 b1 b2 c0 c1 c2
    obtain ⟨⟨p0, p1, p2, p3, p4⟩, z0, z1, z2, z3, z4⟩ := row5 h2.play
    obtain ⟨⟨b0, b1, b2⟩, c0, c1, c2⟩ := row3 bx2
    go_cut [8] from 33 to 56 (fun _ wc => wc = w2)
    case first =>
      have hcode := code_cases D P size n at_
      generalize ((dS D at_).isSome || (pinM P at_).isSome) = inb at *
      generalize placeB at_ = pl at *
      rcases hk4.out with e4 | e4
      · rcases hcode with ⟨rfl, _⟩ | ⟨rfl, rfl, e3, _⟩ | ⟨rfl, rfl, _⟩ | ⟨rfl, rfl, e3, _⟩
        all_goals
          go_wp2
          go_meet
          exact rfl
      · go_wp2
        go_meet
        exact rfl
    case rest =>
      subst hcut
      have hKw : Kp (fun _ => False) w wc := hKx.trans hK2
      have hKd : Kp (fun _ => False) wc wc.drew := (kp_refl _ wc).drew
      have hfl := qforget h2
      have hfar := h.far
      have hfew := h.few
      have hBw : B ≤ w.heap.size := Nat.le_trans hfar.1.1 (Nat.le_of_lt (blk_lt h.play))
      clear hB
      have hmm := fun w => run_makeMap (P := Try.prog) 31 w
      go_wp2_with (first
        | (go_at_call 8; refine Calls.mono (num_any _ _) ?_; rintro e w13 ⟨rfl, rfl⟩)
        | (go_at_call 50; refine Calls.mono hfl ?_; clear hfl; rintro e w4 ⟨rfl, hK4, v4, ring4, X4, hW⟩; have hyl := blk_lt hW.play; obtain ⟨⟨q0, q1, q2, q3, q4⟩, y0, y1, y2, y3, y4⟩ := row5 hW.play))
      have hKw4 : Kp (fun i => B ≤ i) w w4 := (hKw.imp fun _ e => e.elim).trans (Fr.far hK4)
      obtain ⟨hN, hKN⟩ := hW.newDirt (Nat.le_trans hBw hKw4.size)
      have hend : StepQ B yb cb j hb d ib mb size hh pp (bnd + 1) w (.returned (.bool true)) (dirtW w4 yb) := ⟨rfl, hKw4.trans (hKN.imp fun i e => by rw [e]; exact hfar.1.1), _, _, _, _, _, _, _, _, _, _, _, _, hN, by omega, fun k => Nat.le_succ_of_le (hp1 k)⟩
      go_ret
      exact hend
end
end
section
open Go.RowKit Go.Maps Go.Lib
theorem step_any {B yb cb j hb d ib mb size hh pp : Nat} {w : World} {bnd : Nat} (hq : QAny B yb cb j hb d ib mb size hh pp bnd w) (hbnd : bnd ≤ 1000) {kd at_ by_ : Int} (hw : (Lit.int .i64 at_).wf = true) : Calls Try.prog 22 #[.pointer (some ⟨yb, 0, none⟩), .agg #[.int .i64 kd, .int .i64 at_, .int .i64 by_]] w (StepQ B yb cb j hb d ib mb size hh pp (bnd + 1) w) := by
  obtain ⟨dd, v, ring, X, f, writes, D, P, H, hm, dm, pm, h, h1, h2⟩ := hq
  have hk : kd = 0 ∨ kd = 1 ∨ kd = 2 ∨ kd = 3 ∨ kd = 4 ∨ kd = 5 ∨ kd = 6 ∨ (kd ≠ 0 ∧ kd ≠ 1 ∧ kd ≠ 2 ∧ kd ≠ 3 ∧ kd ≠ 4 ∧ kd ≠ 5 ∧ kd ≠ 6) := by omega
  rcases hk with rfl | rfl | rfl | rfl | rfl | rfl | rfl | hk
  · exact step_write0 h h1 h2 hw
  · exact step_write1 h h1 h2 hw
  · exact step_read2 h h1 h2 hw
  · exact step_read3 h h1 h2 hw
  · exact step_pin4 h h1 h2 hbnd hw
  · exact step_unpin5 h h1 h2 hbnd hw
  · exact step_flush6 h h1 h2 hbnd hw
  · exact step_forget h h1 h2 hw hk
theorem hOf_none : hOf (fun _ => none) = fun _ => zeroL := by
  funext k
  unfold hOf wantS
  exact bytesOf_strB zeroL fun b hb => by
    have := List.eq_of_mem_replicate hb
    omega
/-- a cache over a new disk -/
def BegunPost (size : Nat) (w : World) (e : Ending) (w' : World) : Prop :=
  ∃ cb j hb d ib mb f writes, e = .returned (.tuple #[.pointer (some ⟨cb, 0, none⟩), .pointer (some ⟨d, 0, none⟩), .bool true]) ∧ JX p8 w' j d mb ib f false false writes false (fun _ => none) 0 ∧ Rest p8 (headL []) f (fun _ => zeroL) ∧ CAt w' cb j hb size (.slice none 0 0) [] noX ∧ Kp (fun _ => False) w w' ∧ (w.heap.size ≤ cb ∧ w.heap.size ≤ j ∧ w.heap.size ≤ hb) ∧ (w.heap.size ≤ d ∧ w.heap.size ≤ ib ∧ w.heap.size ≤ mb) ∧ hb ≠ mb
set_option maxHeartbeats 1000000 in
theorem begun_any (size : Nat) (hs : 4 ≤ size ∧ size ≤ 1024) (w : World) : Calls Try.prog 21 #[.int .i64 (size : Int)] w (BegunPost size w) := by
  have hnew : Calls Try.prog 6 #[.int .i64 200] w (NewPost p8 w) := new_any p8 w
  have hrest := rest_new p8
  go_enter Try.func21, Try.ntmps21
  go_wp2_with (first
    | (go_at_call 6; refine Calls.mono hnew ?_; rintro e w1 ⟨d, ib, hd, hi, rfl, hD1, hK1⟩; have hfmt : Calls Try.prog 7 #[.pointer (some ⟨d, 0, none⟩), .int .i64 0, .int .i64 60] w1 (FmtPost p8 d ib (fun _ => zeroL) false 0 w1) := fmt_any hD1; clear hnew)
    | (go_at_call 7; refine Calls.mono hfmt ?_; clear hfmt; rintro e w2 ⟨j, mb, off2, hj, hmb, rfl, hJ2, hoc2, hK2⟩; obtain rfl : off2 = false := (by cases off2; rfl; exact absurd (hoc2 rfl) (by decide)); have hcn := cnew_any w2 j size hs)
    | (go_at_call 44; refine Calls.mono hcn ?_; clear hcn; rintro e w3 ⟨cb, hb, hcb, hhb, rfl, hC, hK3⟩)
    | (go_at_call 8; refine Calls.mono (num_any _ _) ?_; rintro e w10 ⟨rfl, rfl⟩))
  go_ret3
  have h1 := hK1.size
  have h2 := hK2.size
  have hml : mb < w2.heap.size := by
    obtain ⟨l, hJ⟩ := hJ2
    exact hJ.map.lt
  exact ⟨cb, j, hb, d, ib, mb, _, _, rfl, hJ2.same hK3, hrest, hC, (Kp.new hK1 hK2 fun k e => .inr (by omega)).trans hK3, ⟨by omega, by omega, by omega⟩, ⟨by omega, by omega, by omega⟩, by omega⟩
/-- the law's start -/
theorem start8 {B cb j hb d ib mb size : Nat} {w : World} {f : Nat → List Nat} {writes : Int} (hJ : JX p8 w j d mb ib f false false writes false (fun _ => none) 0) (hR : Rest p8 (headL []) f (fun _ => zeroL)) (hC : CAt w cb j hb size (.slice none 0 0) [] noX) (hne : hb ≠ mb) (hfar : (B ≤ cb ∧ B ≤ j ∧ B ≤ hb) ∧ B ≤ d ∧ B ≤ ib ∧ B ≤ mb) (hB : B ≤ w.heap.size) :
    QAny B (w.heap.size + 3) cb j hb d ib mb size w.heap.size (w.heap.size + 2) 0 ((((w.alloc (.map #[] 0)).alloc (.map #[] 0)).alloc (.map #[] 0)).alloc (.cells #[.pointer (some ⟨cb, 0, none⟩), .int .i64 (size : Int), .map (some w.heap.size), .map (some (w.heap.size + 1)), .map (some (w.heap.size + 2))] 56)) := by
  have k1 := kp_alloc (fun _ => False) w (.map #[] 0)
  have m1 := mapAt_made w
  have s1 : (w.alloc (.map #[] 0)).heap.size = w.heap.size + 1 := by simp
  generalize w.alloc (.map #[] 0) = w1 at *
  have k2 := kp_alloc (fun _ => False) w1 (.map #[] 0)
  have m2 := mapAt_made w1
  have s2 : (w1.alloc (.map #[] 0)).heap.size = w1.heap.size + 1 := by simp
  generalize w1.alloc (.map #[] 0) = w2 at *
  have k3 := kp_alloc (fun _ => False) w2 (.map #[] 0)
  have m3 := mapAt_made w2
  have s3 : (w2.alloc (.map #[] 0)).heap.size = w2.heap.size + 1 := by simp
  generalize w2.alloc (.map #[] 0) = w3 at *
  have k4 := kp_alloc (fun _ => False) w3 (.cells #[.pointer (some ⟨cb, 0, none⟩), .int .i64 (size : Int), .map (some w.heap.size), .map (some (w.heap.size + 1)), .map (some (w.heap.size + 2))] 56)
  have y4 := heap_alloc_new w3 (.cells #[.pointer (some ⟨cb, 0, none⟩), .int .i64 (size : Int), .map (some w.heap.size), .map (some (w.heap.size + 1)), .map (some (w.heap.size + 2))] 56)
  rw [show w3.heap.size = w.heap.size + 3 by omega] at y4
  rw [s1] at m2
  rw [s2, s1] at m3
  generalize w3.alloc (.cells #[.pointer (some ⟨cb, 0, none⟩), .int .i64 (size : Int), .map (some w.heap.size), .map (some (w.heap.size + 1)), .map (some (w.heap.size + 2))] 56) = w4 at *
  have e1 : strM (dS fun _ => none) = noneM := by
    funext k
    unfold strM dS noneM
    split <;> rfl
  have e2 : pinM (fun _ => 0) = noneM := by
    funext k
    unfold pinM noneM
    rw [if_neg]
    rintro ⟨_, h⟩
    exact absurd h (Nat.lt_irrefl 0)
  have e3 : strM (fun _ => none) = noneM := rfl
  have hml : mb < w.heap.size := by
    obtain ⟨l, hJ0⟩ := hJ
    exact hJ0.map.lt
  have hbl := hC.map.lt
  have hK := ((k1.trans k2).trans k3).trans k4
  refine ⟨w.heap.size + 1, _, [], noX, f, writes, fun _ => none, fun _ => 0, fun _ => none, 0, 0, 0, ⟨hJ.same hK, by rw [hOf_none]; exact hR, hC.same hK, ⟨by simp, by simp, by simp, by simp⟩, y4, ?_, ?_, ?_, (fun l s h => by cases h), ⟨⟨hne, by omega, by omega⟩, ⟨by omega, by omega, by omega⟩, by omega, by omega, by omega, by omega⟩, ⟨by omega, by omega, by omega, by omega⟩, hfar.2, by omega, by omega, by omega⟩, by omega, fun _ => Nat.le_refl _⟩
  · rw [e3]
    exact m1.kp ((k2.trans k3).trans k4) fun e => e
  · rw [e1]
    exact m2.kp (k3.trans k4) fun e => e
  · rw [e2]
    exact m3.kp k4 fun e => e
end
section
open Go.RowKit Go.Maps Go.Lib
/-- the steps as they came in -/
def Steps8 (w : World) (a : Option Addr) (n c : Nat) : Prop := n ≤ c ∧ ∀ i, i < n → ∃ b o, a = some ⟨b, o, none⟩ ∧ b < w.heap.size ∧ ∃ k t u : Int, (Lit.int .i64 k).wf = true ∧ (Lit.int .i64 t).wf = true ∧ (Lit.int .i64 u).wf = true ∧
  w.cell? ⟨b, o + i * 3, none⟩ = some (.int .i64 k) ∧ w.cell? ⟨b, o + i * 3 + 1, none⟩ = some (.int .i64 t) ∧ w.cell? ⟨b, o + i * 3 + 2, none⟩ = some (.int .i64 u)
def Law8 (w0 : World) (B yb cb j hb d ib mb size hh pp : Nat) (i : Nat) (wr : World) : Prop := i ≤ 200 ∧ Kp (fun i => B ≤ i) w0 wr ∧ QAny B yb cb j hb d ib mb size hh pp i wr
theorem QAny.same {B yb cb j hb d ib mb size hh pp bnd : Nat} {w w' : World} (h : QAny B yb cb j hb d ib mb size hh pp bnd w) (hK : Kp (fun _ => False) w w') : QAny B yb cb j hb d ib mb size hh pp bnd w' := by
  obtain ⟨dd, v, ring, X, f, writes, D, P, H, hm, dm, pm, h, h1, h2⟩ := h
  exact ⟨_, _, _, _, _, _, _, _, _, _, _, _, h.same hK, h1, h2⟩
theorem held_of {B yb cb j hb d ib mb size hh pp bnd : Nat} {w : World} (h : QAny B yb cb j hb d ib mb size hh pp bnd w) : Calls Try.prog 23 #[.pointer (some ⟨yb, 0, none⟩)] w (QTrue w) := by
  obtain ⟨dd, v, ring, X, f, writes, D, P, H, hm, dm, pm, h, h1, h2⟩ := h
  exact held_any h
/-- the image, block by block -/
def Blk8 (img : ByteArray) (H : Int → Option ByteArray) : Prop := ∀ k, 60 ≤ k → k < 200 → img.extract (256 * k) (256 * (k + 1)) = wantS H (k : Int)
theorem image8 {B yb cb j hb d ib mb size hh pp : Nat} {w : World} {dd : Nat} {v : Value} {ring : List Nat} {X : Nat → Hb} {f : Nat → List Nat} {writes : Int} {D : Nat → Option ByteArray} {P : Nat → Nat} {H : Int → Option ByteArray} {hm dm pm : Nat} (h : QSt B yb cb j hb d ib mb size hh pp w dd v ring X f writes D P H hm dm pm) :
    ∃ img : ByteArray, Calls Try.prog 24 #[.pointer (some ⟨d, 0, none⟩)] w (fun e w' => e = .returned (.string img) ∧ w' = w) ∧ img.size = 51200 ∧ Blk8 img H := by
  obtain ⟨left, hJ⟩ := h.jx
  refine ⟨_, image_any w d ib 200 f false false left writes hJ.disk, by rw [strB_size, flat_length hJ.disk.len], fun k h1 h2 => bytesOf_inj ?_⟩
  rw [flat_str hJ.disk.len hJ.disk.byt 200 k h2, h.at_home ⟨h1, h2⟩]
  rfl
theorem size8 (sz : Int) : ∃ k : Nat, wrap64 (4 + wrap64 ((IntKind.u64.wrap sz).tmod 50)) = (k : Int) ∧ 4 ≤ k ∧ k ≤ 53 := by
  have h1 : 0 ≤ IntKind.u64.wrap sz := by
    rw [IntKind.wrap_u64]
    omega
  have h2 : (IntKind.u64.wrap sz).tmod 50 = IntKind.u64.wrap sz % 50 := Int.tmod_eq_emod_of_nonneg h1
  rw [h2]
  generalize IntKind.u64.wrap sz = y at *
  refine ⟨(4 + y % 50).toNat, ?_, by omega, by omega⟩
  unfold wrap64
  omega
set_option maxHeartbeats 4000000 in
set_option maxRecDepth 100000 in
theorem law8_any (w : World) (sz : Int) (a : Option Addr) (n cap : Nat) (hst : Steps8 w a n cap) (hawake : ∀ w', Kp (fun _ => False) w w' → Calls Try.prog 25 #[] w' fun e w'' => e = .returned (.bool true) ∧ Kp (fun _ => False) w' w'') :
    Calls Try.prog 4 #[.int .i64 sz, .slice a n cap] w fun e w' => e = .returned (.bool true) ∧ Kp (fun _ => False) w w' := by
  go_enter Try.func4, Try.ntmps4
  go_wp2_with (fail)
  obtain ⟨k, hk, hk4, hk53⟩ := size8 sz
  generalize wrap64 (4 + wrap64 ((IntKind.u64.wrap sz).tmod 50)) = z at *
  subst hk
  go_at_call 21
  refine Calls.mono (begun_any k ⟨hk4, by omega⟩ w) ?_
  rintro e w1 ⟨cb, j, hb, d, ib, mb, f, writes, rfl, hJ, hR, hC, hK1, ⟨f1, f2, f3⟩, ⟨f4, f5, f6⟩, hne⟩
  have hmm := fun w => run_makeMap (P := Try.prog) 31 w
  have hmm2 := fun w => run_makeMap (P := Try.prog) 54 w
  have hst8 := start8 (B := w.heap.size) hJ hR hC hne ⟨⟨f1, f2, f3⟩, f4, f5, f6⟩ hK1.size
  have hrel0 : Law8 w w.heap.size (w1.heap.size + 1 + 1 + 1) cb j hb d ib mb k w1.heap.size (w1.heap.size + 1 + 1) 0 _ := ⟨by omega, (hK1.imp fun _ e => e.elim).trans ((((kp_alloc _ w1 (.map #[] 0)).alloc (.map #[] 0)).alloc (.map #[] 0)).alloc (.cells #[.pointer (some ⟨cb, 0, none⟩), .int .i64 (k : Int), .map (some w1.heap.size), .map (some (w1.heap.size + 1)), .map (some (w1.heap.size + 1 + 1))] 56)), hst8⟩
  have hb0 : ∀ r : Nat, r ≤ 200 → r ≤ 1000 := fun r h => by omega
  clear hJ hR hC hst8
  go_wp2
  generalize hw5 : (((w1.alloc (.map #[] 0)).alloc (.map #[] 0)).alloc (.map #[] 0)).alloc (.cells #[.pointer (some ⟨cb, 0, none⟩), .int .i64 (k : Int), .map (some w1.heap.size), .map (some (w1.heap.size + 1)), .map (some (w1.heap.size + 1 + 1))] 56) = w5 at *
  clear hw5
  generalize w1.heap.size + 1 + 1 + 1 = yb at *
  generalize w1.heap.size + 1 + 1 = pp at *
  go_loopw [10] (fun i wr => ∃ r : Nat, i = .int .i64 r ∧ Law8 w w.heap.size yb cb j hb d ib mb k w1.heap.size pp r wr) (fun i _ => 200 - (RowKit.intOf i).toNat)
  case atStart => exact ⟨0, rfl, hrel0⟩
  case round =>
    obtain ⟨i, rfl, hi, hKp, hq⟩ := hrel
    by_cases hlt : i < n ∧ i < 200
    · obtain ⟨hin, hi2⟩ := hlt
      have g1 : decide ((i : Int) < (n : Int)) = true := by simp; omega
      have g2 : decide ((i : Int) < 200) = true := by simp; omega
      obtain ⟨b, o, hab, hbl, kd, t, u, wk, wt, wu, c0, c1, c2⟩ := hst.2 i hin
      subst hab
      have hcell : ∀ a v, w.cell? ⟨b, a, none⟩ = some v → wr.cell? ⟨b, a, none⟩ = some v := fun a v h => (World.cell?_of_block (hKp.block b hbl (by omega))).trans h
      replace c0 := hcell _ _ c0
      replace c1 := hcell _ _ c1
      replace c2 := hcell _ _ c2
      clear hcell
      have hstep := step_any hq (hb0 _ hi) (kd := kd) (by_ := u) wt
      clear hq
      go_wp2_with (first
        | (go_at_call 22; refine Calls.mono hstep ?_; clear hstep; rintro e w6 ⟨rfl, hK6, hq6⟩; have hheld := held_of hq6)
        | (go_at_call 23; refine Calls.mono hheld ?_; clear hheld; rintro e w7 ⟨rfl, hK7⟩))
      exact ⟨⟨i + 1, by simp, by omega, (hKp.trans hK6).trans (hK7.imp fun _ e => e.elim), hq6.same hK7⟩, by simp [RowKit.intOf]; omega⟩
    · have g1 : ¬ i < n ∨ (i < n ∧ decide ((i : Int) < 200) = false) := by simp; omega
      clear hlt hst hrel0
      obtain ⟨dd, v, ring, X, f6, writes6, D, P, H, hm, dm, pm, h, _, _⟩ := hq
      obtain ⟨img, himg, hsz, hext⟩ := image8 h
      have hfin : ∀ w', Kp (fun _ => False) wr w' → Kp (fun _ => False) w w' := fun w' hK => Kp.new (Kp.new (kp_refl _ w) hKp fun i hi => .inr hi) hK fun i e => e.elim
      have h1 : ((img.size : Int) != 51200) = false := by rw [hsz]; rfl
      rcases g1 with g1 | ⟨g1, g2⟩
      all_goals
        go_wp2_with (go_at_call 24; refine Calls.mono himg ?_; rintro e w6 ⟨rfl, rfl⟩)
        go_loopw [12] (fun i wr => ∃ r : Nat, i = .int .i64 r ∧ 60 ≤ r ∧ r ≤ 200 ∧ Kp (fun _ => False) w6 wr) (fun i _ => 200 - (RowKit.intOf i).toNat)
        case atStart => exact ⟨60, rfl, by omega, by omega, kp_refl _ _⟩
        case round =>
          obtain ⟨r, rfl, hr60, hr200, hKr⟩ := hrel
          have h7 := h.same hKr
          by_cases hlt : r < 200
          · have g3 : decide ((r : Int) < 200) = true := by simp; omega
            have hlk := h7.home.look Try.underlying31 (Try.zeroValue9 wr) (wf_i64 (n := (r : Int)) (by omega)) true
            obtain ⟨⟨p0, p1, p2, p3, p4⟩, z0, z1, z2, z3, z4⟩ := row5 h7.play
            have hx := hext r hr60 hlt
            have hxs : 256 * (r + 1) ≤ img.size := by omega
            cases hH : H (r : Int) with
            | none =>
              rw [strM_none hH] at hlk
              have e : wantS H (r : Int) = strB zeroL := by rw [wantS, hH]; rfl
              rw [e] at hx
              have hmk : (Instr.makeSlice 61 (.int .i64 256) (.int .i64 256)).run Try.prog wr = .ok (.slice (some ⟨wr.heap.size, 0, none⟩) 256 256) (wr.alloc (.cells (cellsOf zeroL) 5)) := mk_bytes wr 256 (by omega)
              have hcv := conv_row (c := 256) (heap_alloc_new wr (.cells (cellsOf zeroL) 5)) zeroL_len
              have hKn := kp_alloc (fun _ => False) wr (.cells (cellsOf zeroL) 5)
              generalize strB zeroL = zz at *
              have hcmp : (!(img.extract (r * 256) ((r + 1) * 256)).toList == zz.toList) = false := by rw [Nat.mul_comm r, Nat.mul_comm (r + 1), hx]; simp
              clear e h7 hH hx
              go_wp2
              exact ⟨⟨r + 1, by simp, by omega, by omega, hKr.trans hKn⟩, by simp [RowKit.intOf]; omega⟩
            | some s =>
              rw [strM_some hH] at hlk
              have e : wantS H (r : Int) = s := by rw [wantS, hH]; rfl
              rw [e] at hx
              have hcmp : (!(img.extract (r * 256) ((r + 1) * 256)).toList == s.toList) = false := by rw [Nat.mul_comm r, Nat.mul_comm (r + 1), hx]; simp
              clear e h7 hH hx
              go_wp2
              exact ⟨⟨r + 1, by simp, by omega, by omega, hKr⟩, by simp [RowKit.intOf]; omega⟩
          · have g3 : decide ((r : Int) < 200) = false := by simp; omega
            have haw := hawake wr (hfin _ hKr)
            go_wp2_with (go_at_call 25; refine Calls.mono haw ?_; rintro e w7 ⟨rfl, hK7⟩)
            go_ret
            exact ⟨rfl, (hfin _ hKr).trans hK7⟩
end
end Go.Proofs.Ytkcclaljhedmjaa

/- CacheSteps: steps of kinds 4, 5. No conditions. -/
import Derived.Test.YtkcclaljhedmjaaKE
import Derived.Test.YtkcclaljhedmjaaKD
import Derived.Lib.Hide
import Derived.StillTailTactics
import Derived.Deep.QuietTactic
import Derived.BigQuiet
namespace Go.Proofs.Ytkcclaljhedmjaa
section
open Go.RowKit Go.Maps Go.Lib
section
variable {B yb cb j hb d ib mb size hh pp : Nat} {w w' : World} {dd : Nat} {v : Value} {ring : List Nat} {X : Nat → Hb} {f : Nat → List Nat} {writes : Int} {D : Nat → Option ByteArray} {P : Nat → Nat} {H : Int → Option ByteArray} {hm dm pm : Nat} {Dm : Nat → Option ByteArray} {Pm : Nat → Nat} {hf : Nat → List Nat}
set_option maxHeartbeats 4000000 in
set_option maxRecDepth 100000 in
theorem step_pin4 (h : QSt B yb cb j hb d ib mb size hh pp w dd v ring X f writes D P H hm dm pm) {bnd : Nat} (hh1 : hm ≤ 40 * bnd) (hp1 : ∀ k, P k ≤ bnd) (hbnd : bnd ≤ 1000) {at_ by_ : Int} (hw : (Lit.int .i64 at_).wf = true) : Calls Try.prog 22 #[.pointer (some ⟨yb, 0, none⟩), .agg #[.int .i64 4, .int .i64 at_, .int .i64 by_]] w (StepQ B yb cb j hb d ib mb size hh pp (bnd + 1) w) := by
  have bx := heap_alloc_new w (.cells #[.int .i64 4, .int .i64 at_, .int .i64 by_] 59)
  have hKx := kp_alloc (fun _ => False) w (.cells #[.int .i64 4, .int .i64 at_, .int .i64 by_] 59)
  have h1 := h.same hKx
  have hbusy := busy_any h1.play h1.dirt h1.pins (by have := h.few; omega) (by have := h.few; omega) hw
  obtain ⟨⟨p0, p1, p2, p3, p4⟩, z0, z1, z2, z3, z4⟩ := row5 h1.play
  obtain ⟨⟨b0, b1, b2⟩, c0, c1, c2⟩ := row3 bx
  go_enter Try.func22, Try.ntmps22
  go_upto_region 1 with (fail)
  generalize w.alloc (.cells #[.int .i64 4, .int .i64 at_, .int .i64 by_] 59) = W at *
  go_cut [5] from 18 to 25 (fun s5 wc => s5 = .bool (placeB at_) ∧ wc = W)
  case first =>
    rcases place8 at_ with ⟨e1, e2, e3⟩ | ⟨e1, e3⟩ | ⟨e1, e2, e3⟩
    all_goals
      go_wp2
      go_meet
      exact ⟨by rw [e3], rfl⟩
  case rest =>
    obtain ⟨rfl, rfl⟩ := hcut
    go_upto_block 0 with (go_at_call 45; refine Calls.mono hbusy ?_; clear hbusy; rintro e w2 ⟨n, rfl, hB, hK2⟩)
    have h2 := h1.same hK2
    have bx2 := (hK2.block w.heap.size (blk_lt bx) fun e => e).trans bx
    clear p0 p1 p2 p3 p4 z0 z1 z2 z3 z4 b0 b1 b2 c0 c1 c2
    obtain ⟨⟨p0, p1, p2, p3, p4⟩, z0, z1, z2, z3, z4⟩ := row5 h2.play
    obtain ⟨⟨b0, b1, b2⟩, c0, c1, c2⟩ := row3 bx2
    go_cut [8] from 33 to 56 (fun s8 wc => s8 = .int .i64 (codeOf D P size n at_) ∧ wc = w2)
    case first =>
      have hcode := code_cases D P size n at_
      generalize ((dS D at_).isSome || (pinM P at_).isSome) = inb at *
      generalize codeOf D P size n at_ = code at *
      generalize placeB at_ = pl at *
      rcases hcode with ⟨rfl, rfl⟩ | ⟨rfl, rfl, e3, rfl⟩ | ⟨rfl, rfl, rfl⟩ | ⟨rfl, rfl, e3, rfl⟩
      all_goals
        go_wp2
        go_meet
        exact ⟨rfl, rfl⟩
    case rest =>
      obtain ⟨rfl, rfl⟩ := hcut
      have hKw : Kp (fun _ => False) w wc := hKx.trans hK2
      have hKd : Kp (fun _ => False) wc wc.drew := (kp_refl _ wc).drew
      have hrd := fun w' (hK : Kp (fun _ => False) wc w') => qpin (h2.same hK) hB at_ fun k => Nat.le_trans (hp1 k) (by omega)
      go_upto_region 20 with (fail)
      go_cut [12] from 126 to 132 (fun s12 wx => s12 = .int .i64 (codeOf D P size n at_) ∧ PMid B yb cb j hb d ib mb size hh pp dd f writes D P H hm dm pm n at_ w.heap.size #[.int .i64 4, .int .i64 at_, .int .i64 by_] wc wx)
      case first =>
        have q0 : wc.drew.cell? ⟨yb, 0, none⟩ = some (.pointer (some ⟨cb, 0, none⟩)) := p0
        have q1 : wc.drew.cell? ⟨w.heap.size, 1, none⟩ = some (.int .i64 at_) := b1
        have hrd0 := hrd _ hKd
        have bxd := (hKd.block w.heap.size (blk_lt bx2) fun e => e).trans bx2
        go_region_held3 (fun w' => w'.cell? ⟨yb, 0, none⟩ = some (.pointer (some ⟨cb, 0, none⟩)) ∧ w'.cell? ⟨w.heap.size, 1, none⟩ = some (.int .i64 at_)) (first | exact ⟨p0, b1⟩ | exact ⟨q0, q1⟩ | exact ⟨t0, t1⟩)
          (first
            | (go_at_call 48; refine Calls.mono hrd0 ?_; rintro e w4 ⟨rfl, P', ⟨hK4, v4, ring4, X4, hW4⟩, hway⟩; have t0 := (row5 hW4.play).1.1; have bx4 := Fr.keep hK4 bxd; have t1 := (row3 bx4).1.2.1))
        go_wp2
        go_meet
        exact ⟨rfl, P', v4, ring4, X4, hW4, Kp.new (hKd.imp fun _ e => e.elim) hK4 fun i hi => .inl hi.1, bx4, hway⟩
      case rest =>
        obtain ⟨rfl, P', v4, ring4, X4, hW, hKx4, bx4, hway⟩ := hcut
        have hfar := h.far
        have hfew := h.few
        clear hrd hB p0 p1 p2 p3 p4 z0 z1 z2 z3 z4 b0 b1 b2 c0 c1 c2 bx2 hKd
        obtain ⟨⟨p0, p1, p2, p3, p4⟩, z0, z1, z2, z3, z4⟩ := row5 hW.play
        obtain ⟨⟨b0, b1, b2⟩, c0, c1, c2⟩ := row3 bx4
        generalize codeOf D P size n at_ = code at *
        rcases hway with ⟨rfl, h0, rfl⟩ | ⟨hc, rfl⟩
        · obtain ⟨k, rfl⟩ : ∃ k : Nat, at_ = k := ⟨at_.toNat, by omega⟩
          have hKd4 : Kp (fun _ => False) wc wc.drew := (kp_refl _ wc).drew
          rw [Int.toNat_natCast] at hW
          have hWd := hW.same hKd4
          have hlk := hWd.pins.look Try.underlying54 (Try.zeroValue3 _) hw false
          rw [pin_get] at hlk
          simp only [Bool.false_eq_true, if_false] at hlk
          have hPk := hp1 k
          have e1 : IntKind.i64.wrap ((P k : Int) + 1) = (P k : Int) + 1 := IntWalk.i64_in _ (by omega)
          obtain ⟨w7, hst7, hM7, hK7, hz7⟩ := hWd.pins.store (by omega) Try.underlying54 hw (.int .i64 ((P k : Int) + 1))
          have hM8 := hM7
          rw [show ((P k : Int) + 1) = ((P k + 1 : Nat) : Int) by omega, pinM_put (by omega)] at hM8
          have hW7 := hWd.setPins hM8 hK7
          have hend : StepQ B yb cb j hb d ib mb size hh pp (bnd + 1) w (.returned (.bool true)) w7 := ⟨rfl, (hKw.imp fun _ e => e.elim).trans (hKx4.trans ((hKd4.imp fun _ e => e.elim).trans (hK7.imp fun i e => by rw [e]; exact hfar.2.2.2.1))), _, _, _, _, _, _, _, _, _, _, _, _, hW7, by omega, fun l => by
            unfold putP
            have := hp1 l
            split <;> omega⟩
          clear hM7 hM8 hW7 hWd
          go_wp2
          go_still_tail 8, (by kernel_rfl)
          change wpList _ _ _ _ _ wc.drew
          go_wp2_with (go_at_call 8; refine Calls.mono (num_any _ _) ?_; rintro e w13 ⟨rfl, rfl⟩)
          go_ret
          exact hend
        · have gc : (code == 0) = false := by simpa using hc
          have hend : StepQ B yb cb j hb d ib mb size hh pp (bnd + 1) w (.returned (.bool true)) wc := ⟨rfl, (hKw.imp fun _ e => e.elim).trans hKx4, _, _, _, _, _, _, _, _, _, _, _, _, hW, by omega, fun k => Nat.le_succ_of_le (hp1 k)⟩
          go_wp2_with (go_at_call 8; refine Calls.mono (num_any _ _) ?_; rintro e w13 ⟨rfl, rfl⟩)
          go_ret
          exact hend
end
end
section
open Go.RowKit Go.Maps Go.Lib
section
variable {B yb cb j hb d ib mb size hh pp : Nat} {w w' : World} {dd : Nat} {v : Value} {ring : List Nat} {X : Nat → Hb} {f : Nat → List Nat} {writes : Int} {D : Nat → Option ByteArray} {P : Nat → Nat} {H : Int → Option ByteArray} {hm dm pm : Nat} {Dm : Nat → Option ByteArray} {Pm : Nat → Nat} {hf : Nat → List Nat}
set_option maxHeartbeats 4000000 in
set_option maxRecDepth 100000 in
theorem step_unpin5 (h : QSt B yb cb j hb d ib mb size hh pp w dd v ring X f writes D P H hm dm pm) {bnd : Nat} (hh1 : hm ≤ 40 * bnd) (hp1 : ∀ k, P k ≤ bnd) (hbnd : bnd ≤ 1000) {at_ by_ : Int} (hw : (Lit.int .i64 at_).wf = true) : Calls Try.prog 22 #[.pointer (some ⟨yb, 0, none⟩), .agg #[.int .i64 5, .int .i64 at_, .int .i64 by_]] w (StepQ B yb cb j hb d ib mb size hh pp (bnd + 1) w) := by
  have bx := heap_alloc_new w (.cells #[.int .i64 5, .int .i64 at_, .int .i64 by_] 59)
  have hKx := kp_alloc (fun _ => False) w (.cells #[.int .i64 5, .int .i64 at_, .int .i64 by_] 59)
  have h1 := h.same hKx
  have hbusy := busy_any h1.play h1.dirt h1.pins (by have := h.few; omega) (by have := h.few; omega) hw
  obtain ⟨⟨p0, p1, p2, p3, p4⟩, z0, z1, z2, z3, z4⟩ := row5 h1.play
  obtain ⟨⟨b0, b1, b2⟩, c0, c1, c2⟩ := row3 bx
  go_enter Try.func22, Try.ntmps22
  go_upto_region 1 with (fail)
  generalize w.alloc (.cells #[.int .i64 5, .int .i64 at_, .int .i64 by_] 59) = W at *
  go_cut [5] from 18 to 25 (fun s5 wc => s5 = .bool (placeB at_) ∧ wc = W)
  case first =>
    rcases place8 at_ with ⟨e1, e2, e3⟩ | ⟨e1, e3⟩ | ⟨e1, e2, e3⟩
    all_goals
      go_wp2
      go_meet
      exact ⟨by rw [e3], rfl⟩
  case rest =>
    obtain ⟨rfl, rfl⟩ := hcut
    go_upto_block 0 with (go_at_call 45; refine Calls.mono hbusy ?_; clear hbusy; rintro e w2 ⟨n, rfl, hB, hK2⟩)
    have h2 := h1.same hK2
    have bx2 := (hK2.block w.heap.size (blk_lt bx) fun e => e).trans bx
    clear p0 p1 p2 p3 p4 z0 z1 z2 z3 z4 b0 b1 b2 c0 c1 c2
    obtain ⟨⟨p0, p1, p2, p3, p4⟩, z0, z1, z2, z3, z4⟩ := row5 h2.play
    obtain ⟨⟨b0, b1, b2⟩, c0, c1, c2⟩ := row3 bx2
    go_cut [8] from 33 to 56 (fun _ wc => wc = w2)
    case first =>
      go_wp2
      go_meet
      exact rfl
    case rest =>
      subst hcut
      have hKw : Kp (fun _ => False) w wc := hKx.trans hK2
      have hKd : Kp (fun _ => False) wc wc.drew := (kp_refl _ wc).drew
      have hrd := fun w' (hK : Kp (fun _ => False) wc w') => qunpin (h2.same hK) at_ hw fun k => Nat.le_trans (hp1 k) (by omega)
      go_upto_region 25 with (fail)
      go_cut [13] from 149 to 155 (fun s13 wx => UMid B yb cb j hb d ib mb size hh pp dd f writes D P H hm dm pm at_ s13 w.heap.size #[.int .i64 5, .int .i64 at_, .int .i64 by_] wc wx)
      case first =>
        have q0 : wc.drew.cell? ⟨yb, 0, none⟩ = some (.pointer (some ⟨cb, 0, none⟩)) := p0
        have q1 : wc.drew.cell? ⟨w.heap.size, 1, none⟩ = some (.int .i64 at_) := b1
        have hrd0 := hrd _ hKd
        have bxd := (hKd.block w.heap.size (blk_lt bx2) fun e => e).trans bx2
        go_region_held3 (fun w' => w'.cell? ⟨yb, 0, none⟩ = some (.pointer (some ⟨cb, 0, none⟩)) ∧ w'.cell? ⟨w.heap.size, 1, none⟩ = some (.int .i64 at_)) (first | exact ⟨p0, b1⟩ | exact ⟨q0, q1⟩ | exact ⟨t0, t1⟩)
          (first
            | (go_at_call 49; refine Calls.mono hrd0 ?_; rintro e w4 ⟨c, P', rfl, ⟨hK4, v4, ring4, X4, hW4⟩, hway⟩; have t0 := (row5 hW4.play).1.1; have bx4 := Fr.keep hK4 bxd; have t1 := (row3 bx4).1.2.1))
        go_wp2
        go_meet
        exact ⟨c, P', v4, ring4, X4, rfl, hW4, Kp.new (hKd.imp fun _ e => e.elim) hK4 fun i hi => .inl hi.1, bx4, hway⟩
      case rest =>
        obtain ⟨c, P', v4, ring4, X4, rfl, hW, hKx4, bx4, hway⟩ := hcut
        have hfar := h.far
        have hfew := h.few
        clear hrd hB p0 p1 p2 p3 p4 z0 z1 z2 z3 z4 b0 b1 b2 c0 c1 c2 bx2 hKd
        obtain ⟨⟨p0, p1, p2, p3, p4⟩, z0, z1, z2, z3, z4⟩ := row5 hW.play
        obtain ⟨⟨b0, b1, b2⟩, c0, c1, c2⟩ := row3 bx4
        have hlk := fun q => (hW.same ((kp_refl (fun _ => False) wc).drewN q)).pins.look Try.underlying54 (Try.zeroValue3 _) hw false
        rcases hway with ⟨rfl, k, rfl, hk0, rfl⟩ | ⟨rfl, hn, rfl⟩
        · rw [pin_get] at hlk
          simp only [Bool.false_eq_true, if_false] at hlk
          have g0 : ((P k : Int) == 0) = false := by simp; omega
          go_wp2
          go_quiet (fail)
          have hKq : Kp (fun _ => False) wc (wc.drewN nq) := (kp_refl _ wc).drewN nq
          have hWq := hW.same hKq
          have bxq := (hKq.block w.heap.size (blk_lt bx4) fun e => e).trans bx4
          clear hlk p0 p1 p2 p3 p4 z0 z1 z2 z3 z4 b0 b1 b2 c0 c1 c2
          generalize wc.drewN nq = wq at *
          obtain ⟨⟨p0, p1, p2, p3, p4⟩, z0, z1, z2, z3, z4⟩ := row5 hWq.play
          obtain ⟨⟨b0, b1, b2⟩, c0, c1, c2⟩ := row3 bxq
          have hKd4 : Kp (fun _ => False) wq wq.drew := (kp_refl _ wq).drew
          have hWd := hWq.same hKd4
          have hlk := hWd.pins.look Try.underlying54 (Try.zeroValue3 _) hw false
          rw [pin_get] at hlk
          simp only [Bool.false_eq_true, if_false] at hlk
          have hPk := hp1 k
          have e1 : IntKind.i64.wrap ((P k : Int) - 1) = ((P k - 1 : Nat) : Int) := by rw [IntWalk.i64_in _ (by omega)]; omega
          obtain ⟨w7, hst7, hM7, hK7, hz7⟩ := hWd.pins.store (by omega) Try.underlying54 hw (.int .i64 ((P k - 1 : Nat) : Int))
          have hy7 : Play8 w7 yb cb size hh dd pp := (hK7.block yb (blk_lt hWd.play) fun e => far_map59 hWd.pins (e ▸ hWd.play)).trans hWd.play
          have bx7 := (hK7.block w.heap.size (blk_lt bxq) fun e => far_map59 hWd.pins (e ▸ bxq)).trans bxq
          have hK07 : Kp (fun i => B ≤ i) w wq := (hKw.imp fun _ e => e.elim).trans (hKx4.trans (hKq.imp fun _ e => e.elim))
          have hK17 : Kp (fun i => i = pp) wq w7 := (hKd4.imp fun _ e => e.elim).trans hK7
          go_wp2
          go_still_tail 8, (by kernel_rfl)
          change wpList _ _ _ _ _ wq.drew
          have hlk7 := fun q => (hM7.kp ((kp_refl (fun _ => False) w7).drewN q) fun e => e).look Try.underlying54 (Try.zeroValue3 _) hw false
          have eg : (putM (pinM P) (k : Int) (.int .i64 ((P k - 1 : Nat) : Int)) (k : Int)).getD (.int .i64 0) = .int .i64 ((P k - 1 : Nat) : Int) := by simp [putM]
          rw [eg] at hlk7
          simp only [Bool.false_eq_true, if_false] at hlk7
          clear p0 p1 p2 p3 p4 z0 z1 z2 z3 z4 b0 b1 b2 c0 c1 c2
          rcases Nat.eq_zero_or_pos (P k - 1) with hz | hz
          · rw [hz, show ((0 : Nat) : Int) = 0 from rfl] at hlk7 hst7 e1 hM7
            have hdr : ∀ q : Nat, ∃ w8, (Builtin.delete_ #[54, 3] 0 #[.map (some pp), .int .i64 (k : Int)]).run Try.prog (w7.drewN q).drew = .ok (.tuple #[]) w8 ∧ StepQ B yb cb j hb d ib mb size hh pp (bnd + 1) w (.returned (.bool true)) w8 := fun q => by
              have hKq7 : Kp (fun _ => False) w7 (w7.drewN q).drew := ((kp_refl _ w7).drewN q).drew
              obtain ⟨w8, hdel, hM8, hK8, hz8⟩ := (hM7.kp hKq7 fun e => e).drop Try.underlying54 hw 0
              refine ⟨w8, hdel, ?_⟩
              rw [pinM_del] at hM8
              have hK18 : Kp (fun i => i = pp) wq w8 := hK17.trans ((hKq7.imp fun _ e => e.elim).trans hK8)
              have hW8 := hWq.setPins hM8 hK18
              rw [hz] at hW8
              exact ⟨rfl, hK07.trans (hK18.imp fun i e => by rw [e]; exact hfar.2.2.2.1), _, _, _, _, _, _, _, _, _, _, _, _, hW8, by omega, fun l => by
                unfold putP
                have := hp1 l
                split <;> omega⟩
            obtain ⟨⟨p0, p1, p2, p3, p4⟩, z0, z1, z2, z3, z4⟩ := row5 hy7
            obtain ⟨⟨b0, b1, b2⟩, c0, c1, c2⟩ := row3 bx7
            clear hM7 hWd hWq hW h2 h1 h hK17 hK07
            go_wp2
            go_quiet (fail)
            obtain ⟨w8, hdel, hend⟩ := hdr nq
            have hyz : Play8 (w7.drewN nq) yb cb size hh dd pp := hy7
            have bxz : (w7.drewN nq).heap[w.heap.size]? = some (.cells #[.int .i64 5, .int .i64 (k : Int), .int .i64 by_] 59) := bx7
            clear hdr hlk7 p0 p1 p2 p3 p4 z0 z1 z2 z3 z4 b0 b1 b2 c0 c1 c2
            generalize w7.drewN nq = wz at *
            obtain ⟨⟨p0, p1, p2, p3, p4⟩, z0, z1, z2, z3, z4⟩ := row5 hyz
            obtain ⟨⟨b0, b1, b2⟩, c0, c1, c2⟩ := row3 bxz
            go_wp2
            go_still_tail 6, (by kernel_rfl)
            change wpList _ _ _ _ _ wz.drew
            go_wp2_with (go_at_call 8; refine Calls.mono (num_any _ _) ?_; rintro e w13 ⟨rfl, rfl⟩)
            go_ret
            exact hend
          · have gz : (((P k - 1 : Nat) : Int) == 0) = false := by simp; omega
            have hM8 := hM7
            rw [pinM_put hz] at hM8
            have hW8 := hWq.setPins hM8 hK17
            have hend : ∀ q : Nat, StepQ B yb cb j hb d ib mb size hh pp (bnd + 1) w (.returned (.bool true)) (w7.drewN q) := fun q => ⟨rfl, hK07.trans ((hK17.drewN q).imp fun i e => by rw [e]; exact hfar.2.2.2.1), _, _, _, _, _, _, _, _, _, _, _, _, hW8.same ((kp_refl (fun _ => False) w7).drewN q), by omega, fun l => by
                unfold putP
                have := hp1 l
                split <;> omega⟩
            obtain ⟨⟨p0, p1, p2, p3, p4⟩, z0, z1, z2, z3, z4⟩ := row5 hy7
            obtain ⟨⟨b0, b1, b2⟩, c0, c1, c2⟩ := row3 bx7
            generalize P k - 1 = m1 at *
            clear hM7 hM8 hW8 hWd hWq hW h2 h1 h hK17 hK07
            go_wp2
            go_quiet (fail)
            have hend2 := hend nq
            clear hend
            go_wp2_with (go_at_call 8; refine Calls.mono (num_any _ _) ?_; rintro e w13 ⟨rfl, rfl⟩)
            go_ret
            exact hend2
        · rw [hn] at hlk
          simp only [Bool.false_eq_true, if_false, Option.getD_none] at hlk
          have hend : ∀ w7, Kp (fun _ => False) wc w7 → StepQ B yb cb j hb d ib mb size hh pp (bnd + 1) w (.returned (.bool true)) w7 := fun w7 hK7 => ⟨rfl, (hKw.imp fun _ e => e.elim).trans (hKx4.trans (hK7.imp fun _ e => e.elim)), _, _, _, _, _, _, _, _, _, _, _, _, hW.same hK7, by omega, fun k => Nat.le_succ_of_le (hp1 k)⟩
          go_wp2
          go_quiet (fail)
          have hend2 := hend _ ((kp_refl _ wc).drewN nq)
          clear hend
          go_wp2_with (go_at_call 8; refine Calls.mono (num_any _ _) ?_; rintro e w13 ⟨rfl, rfl⟩)
          go_ret
          exact hend2
end
end
end Go.Proofs.Ytkcclaljhedmjaa

/- CacheSteps: a step that writes (kind 0). No conditions. -/
import Derived.Test.YtkcclaljhedmjaaKD
import Derived.Deep.CutBlock
import Derived.Deep.CutRange
import Derived.Deep.RegionHeld3
namespace Go.Proofs.Ytkcclaljhedmjaa
section
open Go.RowKit Go.Maps Go.Lib
section
variable {B yb cb j hb d ib mb size hh pp : Nat} {w w' : World} {dd : Nat} {v : Value} {ring : List Nat} {X : Nat → Hb} {f : Nat → List Nat} {writes : Int} {D : Nat → Option ByteArray} {P : Nat → Nat} {H : Int → Option ByteArray} {hm dm pm : Nat} {Dm : Nat → Option ByteArray} {Pm : Nat → Nat} {hf : Nat → List Nat}
def QAny (B yb cb j hb d ib mb size hh pp : Nat) (bnd : Nat) (w : World) : Prop :=
  ∃ dd v ring X f writes D P H hm dm pm, QSt B yb cb j hb d ib mb size hh pp w dd v ring X f writes D P H hm dm pm ∧ hm ≤ 40 * bnd ∧ ∀ k, P k ≤ bnd
def StepQ (B yb cb j hb d ib mb size hh pp : Nat) (bnd : Nat) (w : World) (e : Ending) (w' : World) : Prop :=
  e = .returned (.bool true) ∧ Kp (fun i => B ≤ i) w w' ∧ QAny B yb cb j hb d ib mb size hh pp bnd w'
/-- the step as it came in, and its head behind: the state, the code -/
def HeadQ (B yb cb j hb d ib mb size hh pp : Nat) (w : World) (dd : Nat) (v : Value) (ring : List Nat) (X : Nat → Hb) (f : Nat → List Nat) (writes : Int) (D : Nat → Option ByteArray) (P : Nat → Nat) (H : Int → Option ByteArray) (hm dm pm : Nat) (kd at_ by_ : Int) (s8 : Value) (wc : World) : Prop :=
  ∃ n, s8 = .int .i64 (codeOf D P size n at_) ∧ BusyIs D P n ∧ Kp (fun _ => False) w wc ∧ QSt B yb cb j hb d ib mb size hh pp wc dd v ring X f writes D P H hm dm pm ∧ wc.heap[w.heap.size]? = some (.cells #[.int .i64 kd, .int .i64 at_, .int .i64 by_] 59)
theorem row3 {w : World} {g : Nat} {a b c : Value} {ty : TypeId} (h : w.heap[g]? = some (.cells #[a, b, c] ty)) : (w.cell? ⟨g, 0, none⟩ = some a ∧ w.cell? ⟨g, 1, none⟩ = some b ∧ w.cell? ⟨g, 2, none⟩ = some c) ∧
    (w.frozen? ⟨g, 0, none⟩ = false ∧ w.frozen? ⟨g, 1, none⟩ = false ∧ w.frozen? ⟨g, 2, none⟩ = false) :=
  ⟨⟨cell_of h 0 _ rfl, cell_of h 1 _ rfl, cell_of h 2 _ rfl⟩, frozen_of h 0, frozen_of h 1, frozen_of h 2⟩
def placeB (at_ : Int) : Bool := decide (60 ≤ at_) && decide (at_ < 200)
theorem place8 (at_ : Int) : (decide ((60 : Int) ≤ at_) = true ∧ decide (at_ < 200) = true ∧ placeB at_ = true) ∨ (decide ((60 : Int) ≤ at_) = false ∧ placeB at_ = false) ∨ (decide ((60 : Int) ≤ at_) = true ∧ decide (at_ < 200) = false ∧ placeB at_ = false) := by
  unfold placeB
  cases decide ((60 : Int) ≤ at_) <;> cases decide (at_ < 200) <;> simp
theorem code_cases (D : Nat → Option ByteArray) (P : Nat → Nat) (size n : Nat) (at_ : Int) :
    (placeB at_ = false ∧ codeOf D P size n at_ = 703) ∨ (placeB at_ = true ∧ ((dS D at_).isSome || (pinM P at_).isSome) = false ∧ decide (size ≤ n) = true ∧ codeOf D P size n at_ = 801) ∨
    (placeB at_ = true ∧ ((dS D at_).isSome || (pinM P at_).isSome) = true ∧ codeOf D P size n at_ = 0) ∨ (placeB at_ = true ∧ ((dS D at_).isSome || (pinM P at_).isSome) = false ∧ decide (size ≤ n) = false ∧ codeOf D P size n at_ = 0) := by
  unfold codeOf
  by_cases h : 60 ≤ at_ ∧ at_ < 200
  · have hp : placeB at_ = true := by unfold placeB; simp; omega
    rw [if_pos h, hp]
    cases ((dS D at_).isSome || (pinM P at_).isSome) with
    | true => exact .inr (.inr (.inl ⟨rfl, rfl, by rw [if_neg]; rintro ⟨h, _⟩; cases h⟩))
    | false =>
      by_cases h2 : size ≤ n
      · exact .inr (.inl ⟨rfl, rfl, by simpa using h2, by rw [if_pos ⟨rfl, h2⟩]⟩)
      · exact .inr (.inr (.inr ⟨rfl, rfl, by simpa using h2, by rw [if_neg fun e => h2 e.2]⟩))
  · have hp : placeB at_ = false := by unfold placeB; simp; omega
    rw [if_neg h, hp]
    exact .inl ⟨rfl, rfl⟩
theorem far_map {w : World} {b m o : Nat} {T : Int → Option Value} {u : Value} (hM : MapAt w b T m) (h : w.cell? ⟨b, o, none⟩ = some u) : False := by
  obtain ⟨es, clock, hbb, _⟩ := hM
  simp [World.cell?, hbb] at h
theorem far_map59 {w : World} {b m : Nat} {T : Int → Option Value} {cs : Array Value} {ty : TypeId} (hM : MapAt w b T m) (h : w.heap[b]? = some (.cells cs ty)) : False := by
  obtain ⟨es, clock, hbb, _⟩ := hM
  rw [hbb] at h; cases h
def WMid (B yb cb j hb d ib mb size hh pp dd : Nat) (f : Nat → List Nat) (writes : Int) (D : Nat → Option ByteArray) (P : Nat → Nat) (H : Int → Option ByteArray) (hm dm pm : Nat) (n : Nat) (at_ : Int) (s : ByteArray) (bx : Nat) (row : Array Value) (w w' : World) : Prop :=
  ∃ D' v' ring' X', QW B yb cb j hb d ib mb size hh pp w' dd v' ring' X' f writes D' P H hm D dm P pm (hOf H) ∧ Kp (fun i => B ≤ i) w w' ∧ w'.heap[bx]? = some (.cells row 59) ∧ ((codeOf D P size n at_ = 0 ∧ 0 ≤ at_ ∧ D' = putD D at_.toNat s) ∨ (codeOf D P size n at_ ≠ 0 ∧ D' = D))
def RMid (B yb cb j hb d ib mb size hh pp dd : Nat) (f : Nat → List Nat) (writes : Int) (D : Nat → Option ByteArray) (P : Nat → Nat) (H : Int → Option ByteArray) (hm dm pm : Nat) (n : Nat) (at_ : Int) (s10 : Value) (bx : Nat) (row : Array Value) (w w' : World) : Prop :=
  ∃ t v' ring' X', s10 = .string t ∧ QW B yb cb j hb d ib mb size hh pp w' dd v' ring' X' f writes D P H hm D dm P pm (hOf H) ∧ Kp (fun i => B ≤ i) w w' ∧ w'.heap[bx]? = some (.cells row 59) ∧ ((codeOf D P size n at_ = 0 ∧ t = want8 D H at_) ∨ (codeOf D P size n at_ ≠ 0 ∧ t = ByteArray.empty))
def PMid (B yb cb j hb d ib mb size hh pp dd : Nat) (f : Nat → List Nat) (writes : Int) (D : Nat → Option ByteArray) (P : Nat → Nat) (H : Int → Option ByteArray) (hm dm pm : Nat) (n : Nat) (at_ : Int) (bx : Nat) (row : Array Value) (w w' : World) : Prop :=
  ∃ P' v' ring' X', QW B yb cb j hb d ib mb size hh pp w' dd v' ring' X' f writes D P' H hm D dm P pm (hOf H) ∧ Kp (fun i => B ≤ i) w w' ∧ w'.heap[bx]? = some (.cells row 59) ∧ ((codeOf D P size n at_ = 0 ∧ 0 ≤ at_ ∧ P' = putP P at_.toNat (P at_.toNat + 1)) ∨ (codeOf D P size n at_ ≠ 0 ∧ P' = P))
def UMid (B yb cb j hb d ib mb size hh pp dd : Nat) (f : Nat → List Nat) (writes : Int) (D : Nat → Option ByteArray) (P : Nat → Nat) (H : Int → Option ByteArray) (hm dm pm : Nat) (at_ : Int) (s13 : Value) (bx : Nat) (row : Array Value) (w w' : World) : Prop :=
  ∃ c P' v' ring' X', s13 = .int .i64 c ∧ QW B yb cb j hb d ib mb size hh pp w' dd v' ring' X' f writes D P' H hm D dm P pm (hOf H) ∧ Kp (fun i => B ≤ i) w w' ∧ w'.heap[bx]? = some (.cells row 59) ∧ ((c = 0 ∧ (∃ k : Nat, at_ = k ∧ 0 < P k ∧ P' = putP P k (P k - 1))) ∨ (c = 802 ∧ pinM P at_ = none ∧ P' = P))
set_option maxHeartbeats 4000000 in
set_option maxRecDepth 100000 in
theorem step_write0 (h : QSt B yb cb j hb d ib mb size hh pp w dd v ring X f writes D P H hm dm pm) {bnd : Nat} (hh1 : hm ≤ 40 * bnd) (hp1 : ∀ k, P k ≤ bnd) {at_ by_ : Int} (hw : (Lit.int .i64 at_).wf = true) : Calls Try.prog 22 #[.pointer (some ⟨yb, 0, none⟩), .agg #[.int .i64 0, .int .i64 at_, .int .i64 by_]] w (StepQ B yb cb j hb d ib mb size hh pp (bnd + 1) w) := by
  have bx := heap_alloc_new w (.cells #[.int .i64 0, .int .i64 at_, .int .i64 by_] 59)
  have hKx := kp_alloc (fun _ => False) w (.cells #[.int .i64 0, .int .i64 at_, .int .i64 by_] 59)
  have h1 := h.same hKx
  have hbusy := busy_any h1.play h1.dirt h1.pins (by have := h.few; omega) (by have := h.few; omega) hw
  obtain ⟨⟨p0, p1, p2, p3, p4⟩, z0, z1, z2, z3, z4⟩ := row5 h1.play
  obtain ⟨⟨b0, b1, b2⟩, c0, c1, c2⟩ := row3 bx
  go_enter Try.func22, Try.ntmps22
  go_upto_region 1 with (fail)
  generalize w.alloc (.cells #[.int .i64 0, .int .i64 at_, .int .i64 by_] 59) = W at *
  go_cut [5] from 18 to 25 (fun s5 wc => s5 = .bool (placeB at_) ∧ wc = W)
  case first =>
    rcases place8 at_ with ⟨e1, e2, e3⟩ | ⟨e1, e3⟩ | ⟨e1, e2, e3⟩
    all_goals
      go_wp2
      go_meet
      exact ⟨by rw [e3], rfl⟩
  case rest =>
    obtain ⟨rfl, rfl⟩ := hcut
    go_upto_block 0 with (go_at_call 45; refine Calls.mono hbusy ?_; clear hbusy; rintro e w2 ⟨n, rfl, hB, hK2⟩)
    have h2 := h1.same hK2
    have bx2 := (hK2.block w.heap.size (blk_lt bx) fun e => e).trans bx
    clear p0 p1 p2 p3 p4 z0 z1 z2 z3 z4 b0 b1 b2 c0 c1 c2
    obtain ⟨⟨p0, p1, p2, p3, p4⟩, z0, z1, z2, z3, z4⟩ := row5 h2.play
    obtain ⟨⟨b0, b1, b2⟩, c0, c1, c2⟩ := row3 bx2
    go_cut [8] from 33 to 56 (fun s8 wc => s8 = .int .i64 (codeOf D P size n at_) ∧ wc = w2)
    case first =>
      have hcode := code_cases D P size n at_
      generalize ((dS D at_).isSome || (pinM P at_).isSome) = inb at *
      generalize codeOf D P size n at_ = code at *
      generalize placeB at_ = pl at *
      rcases hcode with ⟨rfl, rfl⟩ | ⟨rfl, rfl, e3, rfl⟩ | ⟨rfl, rfl, rfl⟩ | ⟨rfl, rfl, e3, rfl⟩
      all_goals
        go_wp2
        go_meet
        exact ⟨rfl, rfl⟩
    case rest =>
      obtain ⟨rfl, rfl⟩ := hcut
      have hKw : Kp (fun _ => False) w wc := hKx.trans hK2
      have hKd : Kp (fun _ => False) wc wc.drew := (kp_refl _ wc).drew
      have hwr := fun w' (hK : Kp (fun _ => False) wc w') (bs : ByteArray) (hbs : bs.size = 256) => qwrite (h2.same hK) hB at_ bs hbs
      obtain ⟨bs, hbs, hblk⟩ : ∃ bs, bs.size = 256 ∧ ∀ w', Calls Try.prog 27 #[.int .i64 by_] w' (StrPost bs w') := ⟨_, by rw [strB_size, blkL_len], fun w' => blk5_any by_ w'⟩
      go_upto_region 11 with (fail)
      go_cut [9] from 62 to 71 (fun s9 wx => s9 = .int .i64 (codeOf D P size n at_) ∧ WMid B yb cb j hb d ib mb size hh pp dd f writes D P H hm dm pm n at_ bs w.heap.size #[.int .i64 0, .int .i64 at_, .int .i64 by_] wc wx)
      case first =>
        have q0 : wc.drew.cell? ⟨yb, 0, none⟩ = some (.pointer (some ⟨cb, 0, none⟩)) := p0
        have q1 : wc.drew.cell? ⟨w.heap.size, 1, none⟩ = some (.int .i64 at_) := b1
        have q2 : wc.drew.cell? ⟨w.heap.size, 2, none⟩ = some (.int .i64 by_) := b2
        go_region_held3 (fun w' => w'.cell? ⟨yb, 0, none⟩ = some (.pointer (some ⟨cb, 0, none⟩)) ∧ w'.cell? ⟨w.heap.size, 1, none⟩ = some (.int .i64 at_) ∧ w'.cell? ⟨w.heap.size, 2, none⟩ = some (.int .i64 by_)) (first | exact ⟨p0, b1, b2⟩ | exact ⟨q0, q1, q2⟩ | exact ⟨s0, s1, s2⟩ | exact ⟨t0, t1, t2⟩)
          (first
            | (go_at_call 27; refine Calls.mono (hblk _) ?_; rintro e w3 ⟨rfl, hK3⟩; have hK3' := hKd.trans hK3; have hwr3 := hwr w3 hK3' bs hbs; have s0 := (row5 (h2.same hK3').play).1.1; have bx3 := (hK3'.block w.heap.size (blk_lt bx2) fun e => e).trans bx2; have s1 := (row3 bx3).1.2.1; have s2 := (row3 bx3).1.2.2)
            | (go_at_call 26; refine Calls.mono hwr3 ?_; rintro e w4 ⟨rfl, D', ⟨hK4, v4, ring4, X4, hW4⟩, hway⟩; have t0 := (row5 hW4.play).1.1; have bx4 := Fr.keep hK4 bx3; have t1 := (row3 bx4).1.2.1; have t2 := (row3 bx4).1.2.2))
        go_wp2
        go_meet
        exact ⟨rfl, D', v4, ring4, X4, hW4, Kp.new (hK3'.imp fun _ e => e.elim) hK4 fun i hi => .inl hi.1, bx4, hway⟩
      case rest =>
        obtain ⟨rfl, D', v4, ring4, X4, hW, hKx4, bx4, hway⟩ := hcut
        have hfar := h.far
        have hfew := h.few
        clear hwr hB p0 p1 p2 p3 p4 z0 z1 z2 z3 z4 b0 b1 b2 c0 c1 c2 bx2 hKd
        obtain ⟨⟨p0, p1, p2, p3, p4⟩, z0, z1, z2, z3, z4⟩ := row5 hW.play
        obtain ⟨⟨b0, b1, b2⟩, c0, c1, c2⟩ := row3 bx4
        generalize codeOf D P size n at_ = code at *
        rcases hway with ⟨rfl, h0, rfl⟩ | ⟨hc, rfl⟩
        · obtain ⟨k, rfl⟩ : ∃ k : Nat, at_ = k := ⟨at_.toNat, by omega⟩
          have hKd4 : Kp (fun _ => False) wc wc.drew := (kp_refl _ wc).drew
          have q3 : wc.drew.cell? ⟨yb, 3, none⟩ = some (.map (some dd)) := p3
          have q1 : wc.drew.cell? ⟨w.heap.size, 1, none⟩ = some (.int .i64 (k : Int)) := b1
          have q2 : wc.drew.cell? ⟨w.heap.size, 2, none⟩ = some (.int .i64 by_) := b2
          rw [Int.toNat_natCast] at hW
          go_upto_region 13 with (fail)
          go_region_held3 (fun w' => w'.cell? ⟨yb, 3, none⟩ = some (.map (some dd)) ∧ w'.cell? ⟨w.heap.size, 1, none⟩ = some (.int .i64 (k : Int)) ∧ w'.cell? ⟨w.heap.size, 2, none⟩ = some (.int .i64 by_)) (first | exact ⟨p3, b1, b2⟩ | exact ⟨q3, q1, q2⟩ | exact ⟨s0, s1, s2⟩ | exact ⟨t0, t1, t2⟩)
            (first
              | (go_at_call 27; refine Calls.mono (hblk _) ?_; rintro e w3 ⟨rfl, hK3⟩; have hK3' := hKd4.trans hK3; have hW3 := hW.same hK3'; have s0 := (row5 hW3.play).1.2.2.2.1; have bx3 := (hK3'.block w.heap.size (blk_lt bx4) fun e => e).trans bx4; have s1 := (row3 bx3).1.2.1; have s2 := (row3 bx3).1.2.2; obtain ⟨w7, hst7, hM7, hK7, hz7⟩ := hW3.dirt.store (by omega) Try.underlying31 hw (.string bs); have t0 := (row5 ((hK7.block yb (blk_lt hW3.play) (fun e => by rw [e] at s0; exact far_map hW3.dirt s0)).trans hW3.play)).1.2.2.2.1; have bx7 := (hK7.block w.heap.size (blk_lt bx3) (fun e => far_map59 hW3.dirt (e ▸ bx3))).trans bx3; have t1 := (row3 bx7).1.2.1; have t2 := (row3 bx7).1.2.2))
          rw [strM_put, dS_put] at hM7
          have hW7 := hW3.setDirt hM7 hK7
          have hend : StepQ B yb cb j hb d ib mb size hh pp (bnd + 1) w (.returned (.bool true)) w7 := ⟨rfl, (hKw.imp fun _ e => e.elim).trans (hKx4.trans ((hK3'.imp fun _ e => e.elim).trans (hK7.imp fun i e => by rw [e]; exact hfar.2.2.2.2))), _, _, _, _, _, _, _, _, _, _, _, _, hW7, by omega, fun k => Nat.le_succ_of_le (hp1 k)⟩
          go_wp2_with (go_at_call 8; refine Calls.mono (num_any _ _) ?_; rintro e w13 ⟨rfl, rfl⟩)
          go_ret
          exact hend
        · have gc : (code == 0) = false := by simpa using hc
          have hend : StepQ B yb cb j hb d ib mb size hh pp (bnd + 1) w (.returned (.bool true)) wc := ⟨rfl, (hKw.imp fun _ e => e.elim).trans hKx4, _, _, _, _, _, _, _, _, _, _, _, _, hW, by omega, fun k => Nat.le_succ_of_le (hp1 k)⟩
          go_wp2_with (go_at_call 8; refine Calls.mono (num_any _ _) ?_; rintro e w13 ⟨rfl, rfl⟩)
          go_ret
          exact hend
end
end
end Go.Proofs.Ytkcclaljhedmjaa

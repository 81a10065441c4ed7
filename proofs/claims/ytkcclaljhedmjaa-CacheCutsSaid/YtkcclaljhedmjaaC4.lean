/- JournalSteps: homes, at. No conditions. -/
import Derived.Test.YtkcclaljhedmjaaC3
namespace Go.Proofs.Ytkcclaljhedmjaa
open Go.RowKit Go.Maps
/-- what must be at home -/
def wantS (H : Int → Option ByteArray) (k : Int) : ByteArray := (H k).getD (strB zeroL)
def hOf (H : Int → Option ByteArray) : Nat → List Nat := fun k => bytesOf (wantS H (k : Int))
def p7 : Pl := ⟨110, 10, 60, by omega⟩
def homesB (f : Nat → List Nat) (H : Int → Option ByteArray) : Prop := ∀ k, Home p7 k → f k = hOf H k
/-- the play's row -/
def PlayAt (w : World) (yb d j hb sb : Nat) (c : Bool) : Prop := w.heap[yb]? = some (.cells #[.pointer (some ⟨d, 0, none⟩), .pointer (some ⟨j, 0, none⟩), .int .i64 110, .map (some hb), .map (some sb), .bool c] 33)
theorem row6 {w : World} {g : Nat} {a b c d e f : Value} {ty : TypeId} (h : w.heap[g]? = some (.cells #[a, b, c, d, e, f] ty)) : (w.cell? ⟨g, 0, none⟩ = some a ∧ w.cell? ⟨g, 1, none⟩ = some b ∧ w.cell? ⟨g, 2, none⟩ = some c ∧ w.cell? ⟨g, 3, none⟩ = some d ∧ w.cell? ⟨g, 4, none⟩ = some e ∧ w.cell? ⟨g, 5, none⟩ = some f) ∧
    (w.frozen? ⟨g, 0, none⟩ = false ∧ w.frozen? ⟨g, 1, none⟩ = false ∧ w.frozen? ⟨g, 2, none⟩ = false ∧ w.frozen? ⟨g, 3, none⟩ = false ∧ w.frozen? ⟨g, 4, none⟩ = false ∧ w.frozen? ⟨g, 5, none⟩ = false) :=
  ⟨⟨cell_of h 0 _ rfl, cell_of h 1 _ rfl, cell_of h 2 _ rfl, cell_of h 3 _ rfl, cell_of h 4 _ rfl, cell_of h 5 _ rfl⟩, frozen_of h 0, frozen_of h 1, frozen_of h 2, frozen_of h 3, frozen_of h 4, frozen_of h 5⟩
def HomesPost (f : Nat → List Nat) (H : Int → Option ByteArray) (w : World) (e : Ending) (w' : World) : Prop := ∃ b : Bool, e = .returned (.bool b) ∧ (b = true ↔ homesB f H) ∧ Kp (fun _ => False) w w'
def HomesRel (f : Nat → List Nat) (H : Int → Option ByteArray) (w : World) (k : Nat) (wr : World) : Prop := k ≤ 110 ∧ (∀ i, i < k → Home p7 i → f i = hOf H i) ∧ Kp (fun _ => False) w wr
theorem str_toList (s : ByteArray) : s.toList = s.data.toList := ByteArray.toList_eq s
theorem str_eq (s t : ByteArray) : (s.toList == t.toList) = true ↔ bytesOf s = bytesOf t := by
  rw [str_toList, str_toList, beq_iff_eq]
  refine ⟨fun h => ?_, fun h => by rw [bytesOf_inj h]⟩
  have : s = t := by cases s; cases t; simp at h; rw [h]
  rw [this]
theorem str_ne (s t : ByteArray) : (s.toList != t.toList) = !(decide (bytesOf s = bytesOf t)) := by
  rw [str_toList, str_toList]
  by_cases h : s = t
  · subst h; simp
  · have h1 : ¬ bytesOf s = bytesOf t := fun e => h (bytesOf_inj e)
    have h2 : ¬ s.data.toList = t.data.toList := fun e => h (by cases s; cases t; simp at e; rw [e])
    simp [h1, h2]
theorem flat_str {f : Nat → List Nat} (h : ∀ k, (f k).length = 256) (hb : ∀ k, ∀ b ∈ f k, b < 256) (n k : Nat) (hk : k < n) : bytesOf ((strB (flat f n)).extract (256 * k) (256 * (k + 1))) = f k := by
  rw [bytesOf_extract, bytesOf_strB, show 256 * (k + 1) - 256 * k = 256 by omega, flat_slice h n k hk]
  intro b
  induction n with
  | zero => simp [flat]
  | succ n ih =>
    rw [flat, List.mem_append]
    rintro (h1 | h1)
    · by_cases hkn : k < n
      · exact ih hkn h1
      · clear ih hk hkn
        induction n with
        | zero => simp [flat] at h1
        | succ n ih2 =>
          rw [flat, List.mem_append] at h1
          rcases h1 with h1 | h1
          · exact ih2 h1
          · exact hb _ b h1
    · exact hb _ b h1
/-- an image's blocks -/
def BlocksOf (img : ByteArray) (f : Nat → List Nat) : Prop := ∀ k, k < 110 → bytesOf (img.extract (256 * k) (256 * (k + 1))) = f k
set_option maxHeartbeats 2000000 in
set_option maxRecDepth 100000 in
theorem homes_any {w : World} {yb d ib j hb sb hm : Nat} {f : Nat → List Nat} {off cut c : Bool} {writes : Int} {H : Int → Option ByteArray} (h : DX p7 w d ib f off cut writes) (hy : PlayAt w yb d j hb sb c) (hM : MapAt w hb (strM H) hm) : Calls Try.prog 9 #[.pointer (some ⟨yb, 0, none⟩)] w (HomesPost f H w) := by
  obtain ⟨left, hD⟩ := h
  have hl := hD.len
  have hby := hD.byt
  have himg := image_any w d ib 110 f off cut left writes hD
  have hsz : (strB (flat f 110)).size = 28160 := by rw [strB_size, flat_length hl]
  obtain ⟨⟨p0, p1, p2, p3, p4, p5⟩, z0, z1, z2, z3, z4, z5⟩ := row6 hy
  clear hD
  have hext : BlocksOf (strB (flat f 110)) f := fun k hk => flat_str hl hby 110 k hk
  unfold ImagePost at himg
  generalize strB (flat f 110) = img at *
  go_enter Try.func9, Try.ntmps9
  go_wp2_with (go_at_call 24; refine Calls.mono himg ?_; rintro e w' ⟨rfl, rfl⟩)
  go_loopw [4] (fun i wr => ∃ k : Nat, i = .int .i64 k ∧ HomesRel f H w' k wr) (fun i _ => 110 - (RowKit.intOf i).toNat)
  case atStart => exact ⟨0, rfl, by omega, fun i hi => by omega, kp_refl _ _⟩
  case round =>
    obtain ⟨k, rfl, hk, hall, hKp⟩ := hrel
    have hrow := row6 (show PlayAt wr yb d j hb sb c from (hKp.block yb (blk_lt hy) (fun e => e)).trans hy)
    obtain ⟨⟨q0, q1, q2, q3, q4, q5⟩, y0, y1, y2, y3, y4, y5⟩ := hrow
    by_cases hlt : k < 110
    · have g3 : decide ((k : Int) < 110) = true := by simp; omega
      by_cases hin : 10 ≤ k ∧ k < 70
      · have g4 : decide ((10 : Int) ≤ (k : Int)) = true := by simp; omega
        have g5 : decide ((k : Int) < 70) = true := by simp; omega
        go_wp2
        exact ⟨⟨k + 1, by simp, by omega, fun i hi hh => by
          by_cases e : i = k
          · subst e
            have := hh.2
            simp [p7] at this
            omega
          · exact hall i (by omega) hh, hKp⟩, by simp [RowKit.intOf]; omega⟩
      · have hlk := (hM.kp hKp (fun e => e)).look Try.underlying31 (Try.zeroValue9 wr) (wf_i64 (n := (k : Int)) (by omega)) true
        have hhome : Home p7 k := by unfold Home p7; simp; omega
        obtain ⟨want, hwant⟩ : ∃ want, want = wantS H (k : Int) := ⟨_, rfl⟩
        have hgood : ∀ wr2, Kp (fun _ => False) wr wr2 → (!(img.extract (k * 256) ((k + 1) * 256)).toList == want.toList) = false → HomesRel f H w' (k + 1) wr2 := fun wr2 hK2 he => by
          refine ⟨by omega, fun i hi hh => ?_, hKp.trans hK2⟩
          by_cases e : i = k
          · subst e
            rw [Bool.not_eq_false', str_eq, Nat.mul_comm i, Nat.mul_comm (i + 1), hext i hlt] at he
            rw [he, hwant]; rfl
          · exact hall i (by omega) hh
        have hbad : ∀ wr2, Kp (fun _ => False) wr wr2 → (!(img.extract (k * 256) ((k + 1) * 256)).toList == want.toList) = true → HomesPost f H w' (.returned (.bool false)) wr2 := fun wr2 hK2 he => by
          refine ⟨false, rfl, ⟨fun e => (by cases e), fun e => ?_⟩, hKp.trans hK2⟩
          have := e k hhome
          rw [← hext k hlt, hOf, ← hwant, Nat.mul_comm 256 k, Nat.mul_comm 256 (k + 1), ← str_eq] at this
          rw [this] at he
          cases he
        cases hH : H (k : Int) with
        | none =>
          rw [strM_none hH] at hlk
          have hb0 := block0_any wr
          have e : want = strB zeroL := by rw [hwant, wantS, hH]; rfl
          rw [← e] at hb0
          clear hwant e hH hM
          by_cases g10 : 10 ≤ k
          · have g4 : decide ((10 : Int) ≤ (k : Int)) = true := by simp; omega
            have g5 : decide ((k : Int) < 70) = false := by simp; omega
            go_wp2_with (go_at_call 32; refine Calls.mono hb0 ?_; rintro e w2 ⟨rfl, hK2⟩)
            all_goals rename_i hcmp
            all_goals first
              | exact ⟨⟨k + 1, by simp, hgood _ hK2 hcmp⟩, by simp [RowKit.intOf]; omega⟩
              | (go_ret; exact hbad _ hK2 hcmp)
          · have g4 : decide ((10 : Int) ≤ (k : Int)) = false := by simp; omega
            go_wp2_with (go_at_call 32; refine Calls.mono hb0 ?_; rintro e w2 ⟨rfl, hK2⟩)
            all_goals rename_i hcmp
            all_goals first
              | exact ⟨⟨k + 1, by simp, hgood _ hK2 hcmp⟩, by simp [RowKit.intOf]; omega⟩
              | (go_ret; exact hbad _ hK2 hcmp)
        | some s =>
          rw [strM_some hH] at hlk
          obtain rfl : want = s := by rw [hwant, wantS, hH]; rfl
          clear hwant hH hM
          by_cases g10 : 10 ≤ k
          · have g4 : decide ((10 : Int) ≤ (k : Int)) = true := by simp; omega
            have g5 : decide ((k : Int) < 70) = false := by simp; omega
            go_wp2
            all_goals rename_i hcmp
            all_goals first
              | exact ⟨⟨k + 1, by simp, hgood _ (kp_refl _ _) hcmp⟩, by simp [RowKit.intOf]; omega⟩
              | (go_ret; exact hbad _ (kp_refl _ _) hcmp)
          · have g4 : decide ((10 : Int) ≤ (k : Int)) = false := by simp; omega
            go_wp2
            all_goals rename_i hcmp
            all_goals first
              | exact ⟨⟨k + 1, by simp, hgood _ (kp_refl _ _) hcmp⟩, by simp [RowKit.intOf]; omega⟩
              | (go_ret; exact hbad _ (kp_refl _ _) hcmp)
    · have g3 : decide ((k : Int) < 110) = false := by simp; omega
      go_wp2
      go_ret
      exact ⟨true, rfl, ⟨fun _ i hi => hall i (by have := hi.1; simp [p7] at this; omega) hi, fun _ => rfl⟩, hKp⟩
/-- what must be read -/
def atS (St H : Int → Option ByteArray) (k : Int) : ByteArray := (St k).getD (wantS H k)
set_option maxHeartbeats 1000000 in
theorem at_any {w : World} {yb d j hb sb hm sm : Nat} {c : Bool} {St H : Int → Option ByteArray} {k : Int} (hk : (Lit.int .i64 k).wf = true) (hy : PlayAt w yb d j hb sb c) (hM : MapAt w hb (strM H) hm) (hT : MapAt w sb (strM St) sm) : Calls Try.prog 15 #[.pointer (some ⟨yb, 0, none⟩), .int .i64 k] w (StrPost (atS St H k) w) := by
  have hl1 := hT.look Try.underlying31 (Try.zeroValue9 w) hk true
  have hl2 := hM.look Try.underlying31 (Try.zeroValue9 w) hk true
  have hb0 := block0_any w
  obtain ⟨⟨p0, p1, p2, p3, p4, p5⟩, z0, z1, z2, z3, z4, z5⟩ := row6 hy
  cases hS : St k with
  | some s =>
    rw [strM_some hS] at hl1
    have e : atS St H k = s := by rw [atS, hS]; rfl
    rw [e]
    clear e hS hM hT
    go_enter Try.func15, Try.ntmps15
    go_wp2
    go_ret
    exact ⟨rfl, kp_refl _ _⟩
  | none =>
    rw [strM_none hS] at hl1
    cases hH : H k with
    | some s =>
      rw [strM_some hH] at hl2
      have e : atS St H k = s := by rw [atS, hS, wantS, hH]; rfl
      rw [e]
      clear e hS hH hM hT
      go_enter Try.func15, Try.ntmps15
      go_wp2
      go_ret
      exact ⟨rfl, kp_refl _ _⟩
    | none =>
      rw [strM_none hH] at hl2
      have e : atS St H k = strB zeroL := by rw [atS, hS, wantS, hH]; rfl
      rw [e]
      clear e hS hH hM hT
      generalize strB zeroL = zz at *
      go_enter Try.func15, Try.ntmps15
      go_wp2_with (go_at_call 32; refine Calls.mono hb0 ?_; rintro e w2 ⟨rfl, hK2⟩)
      go_ret
      exact ⟨rfl, hK2⟩
end Go.Proofs.Ytkcclaljhedmjaa

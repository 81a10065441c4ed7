import Derived.Test.YtkcclaljhedmjaaA9
namespace Go.Proofs.Ytkcclaljhedmjaa
open Go.RowKit Go.Maps Go.Lib
/-- texts -/
def strM (S : Int → Option ByteArray) : Int → Option Value := fun k => (S k).map Value.string
theorem strM_some {S : Int → Option ByteArray} {k : Int} {s : ByteArray} (h : S k = some s) : strM S k = some (.string s) := by simp [strM, h]
theorem strM_none {S : Int → Option ByteArray} {k : Int} (h : S k = none) : strM S k = none := by simp [strM, h]
def putS (S : Int → Option ByteArray) (k : Int) (s : ByteArray) : Int → Option ByteArray := fun i => if i = k then some s else S i
theorem strM_put (S : Int → Option ByteArray) (k : Int) (s : ByteArray) : putM (strM S) k (.string s) = strM (putS S k s) := by
  funext i
  unfold putM strM putS
  split <;> rfl
theorem strM_none' : strM (fun _ => none) = noneM := rfl
/-- the journal in memory -/
structure JW (p : Pl) (w : World) (j d mb ib : Nat) (f : Nat → List Nat) (off cut : Bool) (left writes : Int) (over : Bool) (S : Int → Option ByteArray) (m : Nat) : Prop where
  disk : DiskAt w d ib p.n f off cut left writes
  row : JAt w j d mb p.fr p.bl over
  map : MapAt w mb (strM S) m
/-- what is staged -/
structure Stg (p : Pl) (S : Int → Option ByteArray) (m : Nat) : Prop where
  home : ∀ k s, S k = some s → (∃ n : Nat, k = n ∧ Home p n) ∧ s.size = 256
  few : m ≤ 40
theorem homeB_of {p : Pl} {k : Int} (h : ∃ n : Nat, k = n ∧ Home p n) : homeB p.n p.fr p.bl k = true := by
  obtain ⟨n, rfl, h1, h2⟩ := h
  simp [homeB]; omega
theorem homeB_iff {p : Pl} {k : Int} : homeB p.n p.fr p.bl k = true ↔ ∃ n : Nat, k = n ∧ Home p n := by
  refine ⟨fun h => ?_, homeB_of⟩
  simp [homeB] at h
  exact ⟨k.toNat, by omega, by omega, by omega⟩
theorem wf_i64 {n : Int} (h : -9223372036854775808 ≤ n ∧ n ≤ 9223372036854775807) : (Lit.int .i64 n).wf = true := by
  simp only [Lit.wf, Bool.and_eq_true, decide_eq_true_eq]
  have e1 : IntKind.i64.min = -9223372036854775808 := by decide
  have e2 : IntKind.i64.max = 9223372036854775807 := by decide
  rw [e1, e2]; exact h
theorem homeB_wf {p : Pl} {k : Int} (h : homeB p.n p.fr p.bl k = true) : (Lit.int .i64 k).wf = true := by
  have hp := p.ok
  obtain ⟨n, rfl, h1, h2⟩ := homeB_iff.1 h
  exact wf_i64 (by omega)
section
variable {p : Pl} {w : World} {j d mb ib : Nat} {f : Nat → List Nat} {off cut : Bool} {left writes : Int} {over : Bool} {S : Int → Option ByteArray} {m : Nat}
theorem JW.kp {w' : World} {F : Nat → Prop} (h : JW p w j d mb ib f off cut left writes over S m) (hk : Kp F w w') (h1 : ¬ F j) (h2 : ¬ F d) (h3 : ¬ F mb) (h4 : ¬ F ib) : JW p w' j d mb ib f off cut left writes over S m :=
  ⟨⟨(hk.block d (blk_lt h.disk.row) h2).trans h.disk.row, (hk.block ib (blk_lt h.disk.img) h4).trans h.disk.img, h.disk.len, h.disk.byt, h.disk.wr⟩, (hk.block j (blk_lt h.row) h1).trans h.row, h.map.kp hk h3⟩
theorem JW.quiet (h : JW p w j d mb ib f off cut left writes over S m) (q : Nat) : JW p (w.drewN q) j d mb ib f off cut left writes over S m :=
  h.kp ((kp_refl (fun _ => False) w).drewN q) (fun e => e) (fun e => e) (fun e => e) (fun e => e)
/-- its blocks are four -/
theorem JW.ne (h : JW p w j d mb ib f off cut left writes over S m) : j ≠ d ∧ j ≠ mb ∧ j ≠ ib ∧ d ≠ mb ∧ d ≠ ib ∧ mb ≠ ib := by
  have h1 := h.row
  have h2 := h.disk.row
  have h3 := h.disk.img
  obtain ⟨es, clock, h4, _⟩ := h.map
  unfold JAt at h1
  refine ⟨?_, ?_, ?_, ?_, ?_, ?_⟩ <;> rintro rfl <;> simp_all
theorem JW.home (h : JW p w j d mb ib f off cut left writes over S m) (at_ : Int) : Calls Try.prog 34 #[.pointer (some ⟨j, 0, none⟩), .int .i64 at_] w (QBool (homeB p.n p.fr p.bl at_) w) :=
  home_any w j d mb ib p.n f off cut left writes p.fr p.bl at_ over (by have := p.ok; omega) (by have := p.ok; omega) (by have := p.ok; omega) h.row h.disk
theorem JW.may (h : JW p w j d mb ib f off cut left writes over S m) : Calls Try.prog 33 #[.pointer (some ⟨j, 0, none⟩)] w (MayPost (bif over || off then 603 else 0) w) :=
  jmay_any w j d mb ib p.n f off cut left writes _ _ over h.row h.disk
end
/-- nothing was done but reads -/
def QInt (c : Int) (w : World) (e : Ending) (w' : World) : Prop := e = .returned (.int .i64 c) ∧ ∃ k, w' = w.drewN k
section
variable {p : Pl} {w : World} {j d mb ib : Nat} {f : Nat → List Nat} {cut : Bool} {left writes : Int} {S : Int → Option ByteArray} {m : Nat} {at_ : Int}
set_option maxHeartbeats 1000000 in
theorem put_no (h : JW p w j d mb ib f false cut left writes false S m) (hw : (Lit.int .i64 at_).wf = true) (hno : homeB p.n p.fr p.bl at_ = false) (s : ByteArray) : Calls Try.prog 10 #[.pointer (some ⟨j, 0, none⟩), .int .i64 at_, .string s] w (QInt 703 w) := by
  have hmay := h.may
  have hhome := h.home at_
  have hlk := h.map.look Try.underlying31 (Try.zeroValue9 w) hw true
  rw [hno] at hhome
  obtain ⟨⟨p0, p1, p2, p3, p4⟩, z0, z1, z2, z3, z4⟩ := row5 h.row
  go_enter Try.func10, Try.ntmps10
  go_wp2_with (first | (go_at_call 33; refine Calls.mono hmay ?_; rintro e w' ⟨rfl, rfl⟩) | (go_at_call 34; refine Calls.mono hhome ?_; rintro e w' ⟨rfl, q, rfl⟩))
  go_ret
  exact ⟨rfl, _, rfl⟩
end
end Go.Proofs.Ytkcclaljhedmjaa

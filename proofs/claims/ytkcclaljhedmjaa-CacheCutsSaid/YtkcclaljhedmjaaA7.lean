import Derived.Test.YtkcclaljhedmjaaA6
import Derived.Deep.QuietTactic
import Derived.BigQuiet
import Derived.IntWalk
namespace Go.Proofs.Ytkcclaljhedmjaa
open Go.RowKit Go.Maps Go.Lib
/-- a Bool, told by reads in an open order -/
def QBool (c : Bool) (w : World) (e : Ending) (w' : World) : Prop := e = .returned (.bool c) ∧ ∃ k, w' = w.drewN k
set_option maxHeartbeats 1000000 in
theorem home_any (w : World) (j d mb ib n : Nat) (f : Nat → List Nat) (off cut : Bool) (left writes fr bl at_ : Int) (over : Bool) (hn : 256 * n ≤ 1000000) (hfr : 0 ≤ fr ∧ fr ≤ 1000) (hbl : 0 ≤ bl ∧ bl ≤ 1000) (hj : JAt w j d mb fr bl over) (hd : DiskAt w d ib n f off cut left writes) : Calls Try.prog 34 #[.pointer (some ⟨j, 0, none⟩), .int .i64 at_] w (QBool (homeB n fr bl at_) w) := by
  have hb := fun w' (h : w'.heap[d]? = w.heap[d]?) => blocks_any w' d (some ⟨ib, 0, none⟩) n (256 * n) _ _ _ _ (by unfold maxLen; omega) 66 (h.trans hd.row)
  obtain ⟨⟨p0, p1, p2, p3, p4⟩, z0, z1, z2, z3, z4⟩ := row5 hj
  have e1 : IntKind.i64.wrap (fr + bl) = fr + bl := IntWalk.i64_in _ (by omega)
  go_enter Try.func34, Try.ntmps34
  go_wp2
  have h1 : at_ < 0 ∨ (0 ≤ at_ ∧ (n : Int) ≤ at_) ∨ (0 ≤ at_ ∧ at_ < n ∧ at_ < fr) ∨ (0 ≤ at_ ∧ at_ < n ∧ fr ≤ at_ ∧ fr + bl ≤ at_) ∨ (0 ≤ at_ ∧ at_ < n ∧ fr ≤ at_ ∧ at_ < fr + bl) := by omega
  rcases h1 with h | ⟨h, h2⟩ | ⟨h, h2, h3⟩ | ⟨h, h2, h3, h4⟩ | ⟨h, h2, h3, h4⟩
  · have g0 : decide (0 ≤ at_) = false := by simpa using h
    have e : homeB n fr bl at_ = false := by simp [homeB, g0]
    go_quiet ((go_at_call 54; exact Calls.quiet_of_same (hb _ rfl)))
    go_wp2
    go_ret
    exact ⟨by rw [e]; rfl, _, rfl⟩
  · have g0 : decide (0 ≤ at_) = true := by simpa using h
    have g1 : decide (at_ < n) = false := by simpa using h2
    have e : homeB n fr bl at_ = false := by simp [homeB, g0, g1]
    go_quiet ((go_at_call 54; exact Calls.quiet_of_same (hb _ rfl)))
    go_wp2
    go_ret
    exact ⟨by rw [e]; rfl, _, rfl⟩
  · have g0 : decide (0 ≤ at_) = true := by simpa using h
    have g1 : decide (at_ < n) = true := by simpa using h2
    have g2 : decide (at_ < fr) = true := by simpa using h3
    have e : homeB n fr bl at_ = true := by simp [homeB, g0, g1, g2]
    go_quiet ((go_at_call 54; exact Calls.quiet_of_same (hb _ rfl)))
    go_wp2
    go_ret
    exact ⟨by rw [e]; rfl, _, rfl⟩
  · have g0 : decide (0 ≤ at_) = true := by simpa using h
    have g1 : decide (at_ < n) = true := by simpa using h2
    have g2 : decide (at_ < fr) = false := by simpa using h3
    have g3 : decide (fr + bl ≤ at_) = true := by simpa using h4
    have e : homeB n fr bl at_ = true := by simp [homeB, g0, g1, g2, g3]
    go_quiet ((go_at_call 54; exact Calls.quiet_of_same (hb _ rfl)))
    go_wp2
    go_ret
    exact ⟨by rw [e]; rfl, _, rfl⟩
  · have g0 : decide (0 ≤ at_) = true := by simpa using h
    have g1 : decide (at_ < n) = true := by simpa using h2
    have g2 : decide (at_ < fr) = false := by simpa using h3
    have g3 : decide (fr + bl ≤ at_) = false := by simpa using h4
    have e : homeB n fr bl at_ = false := by simp [homeB, g0, g1, g2, g3]
    go_quiet ((go_at_call 54; exact Calls.quiet_of_same (hb _ rfl)))
    go_wp2
    go_ret
    exact ⟨by rw [e]; rfl, _, rfl⟩
end Go.Proofs.Ytkcclaljhedmjaa

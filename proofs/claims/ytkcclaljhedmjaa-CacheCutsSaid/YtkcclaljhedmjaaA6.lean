import Derived.Test.YtkcclaljhedmjaaA5
namespace Go.Proofs.Ytkcclaljhedmjaa
open Go.RowKit Go.Maps Go.Lib
/-- the journal's own row -/
def JAt (w : World) (j d mb : Nat) (fr bl : Int) (over : Bool) : Prop := w.heap[j]? = some (.cells #[.pointer (some ⟨d, 0, none⟩), .int .i64 fr, .int .i64 bl, .map (some mb), .bool over] 70)
set_option maxHeartbeats 1000000 in
theorem jmay_any (w : World) (j d mb ib n : Nat) (f : Nat → List Nat) (off cut : Bool) (left writes fr bl : Int) (over : Bool) (hj : JAt w j d mb fr bl over) (hd : DiskAt w d ib n f off cut left writes) : Calls Try.prog 33 #[.pointer (some ⟨j, 0, none⟩)] w (MayPost (bif over || off then 603 else 0) w) := by
  have ha := alive_any w d _ _ _ _ off 66 hd.row
  obtain ⟨⟨p0, p1, p2, p3, p4⟩, z0, z1, z2, z3, z4⟩ := row5 hj
  go_enter Try.func33, Try.ntmps33
  cases over
  · cases off
    · go_wp2_with (go_at_call 37; refine Calls.mono ha ?_; rintro e w' ⟨rfl, rfl⟩)
      go_ret
      exact ⟨rfl, rfl⟩
    · go_wp2_with (go_at_call 37; refine Calls.mono ha ?_; rintro e w' ⟨rfl, rfl⟩)
      go_ret
      exact ⟨rfl, rfl⟩
  · go_wp2_with (go_at_call 37; refine Calls.mono ha ?_; rintro e w' ⟨rfl, rfl⟩)
    go_ret
    exact ⟨rfl, rfl⟩
/-- may the journal write it? -/
def homeB (n : Nat) (fr bl at_ : Int) : Bool := decide (0 ≤ at_) && (decide (at_ < n) && (decide (at_ < fr) || decide (fr + bl ≤ at_)))
end Go.Proofs.Ytkcclaljhedmjaa

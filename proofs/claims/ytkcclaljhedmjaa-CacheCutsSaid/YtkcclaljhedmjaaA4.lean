import Derived.Test.YtkcclaljhedmjaaA3
namespace Go.Proofs.Ytkcclaljhedmjaa
open Go.RowKit Go.Maps Go.Lib
def ImagePost (n : Nat) (f : Nat → List Nat) (w : World) (e : Ending) (w' : World) : Prop := e = .returned (.string (strB (flat f n))) ∧ w' = w
set_option maxHeartbeats 1000000 in
theorem image_any (w : World) (d ib n : Nat) (f : Nat → List Nat) (off cut : Bool) (left writes : Int) (h : DiskAt w d ib n f off cut left writes) : Calls Try.prog 24 #[.pointer (some ⟨d, 0, none⟩)] w (ImagePost n f w) := by
  have hfl := flat_length h.len n
  have hcv : (convert 61 9 (.slice (some ⟨ib, 0, none⟩) (256 * n) (256 * n))).run Try.prog w = .ok (.string (strB (flat f n))) w := by
    refine run_convert_bytes_arg w 61 5 Try.underlying61 Try.underlying5 ib 0 (256 * n) (256 * n) _ (by simp [hfl]) (fun i hi => ?_) 9 Try.underlying9
    rw [Nat.zero_add]
    refine cell_of h.img _ _ ?_
    simp [cellsOf, List.getElem?_eq_getElem (show i < (flat f n).length by omega)]
  obtain ⟨⟨p0, p1, p2, p3, p4⟩, z0, z1, z2, z3, z4⟩ := row5 h.row
  go_enter Try.func24, Try.ntmps24
  go_wp2
  go_ret
  exact ⟨rfl, rfl⟩
/-- a block's slice of an image -/
theorem strB_slice (xs : List Nat) (a b : Nat) : ((strB xs).data.toList.drop a).take b = (strB ((xs.drop a).take b)).data.toList := by
  simp [strB, strOfNums, List.map_drop, List.map_take]
end Go.Proofs.Ytkcclaljhedmjaa

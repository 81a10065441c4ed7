/- Rows of a table of answers (with what they lead to): runs by the evaluator, in the kernel. No conditions. -/
import Derived.Test.YtndjamcbdcjleaaGreatDoorPtH
namespace Go.Proofs.YtndjamcbdcjleaaGreatDoor
open Go.VM
set_option maxRecDepth 1000000 in
theorem face_run9 : @rowRun hookA Tryz.prog laidL 13 key4 faceRow9 = true := by decide +kernel
end Go.Proofs.YtndjamcbdcjleaaGreatDoor

/- Rows of a table of answers (with what they lead to): runs by the evaluator, in the kernel. No conditions. -/
import Derived.Test.YtndjamcbdcjleaaGreatDoorPtH
namespace Go.Proofs.YtndjamcbdcjleaaGreatDoor
open Go.VM
set_option maxRecDepth 1000000 in
theorem face_run6 : @rowRun hookA Tryz.prog laidL 13 key4 faceRow6 = true := by decide +kernel
set_option maxRecDepth 1000000 in
theorem face_run7 : @rowRun hookA Tryz.prog laidL 13 key4 faceRow7 = true := by decide +kernel
set_option maxRecDepth 1000000 in
theorem face_run8 : @rowRun hookA Tryz.prog laidL 13 key4 faceRow8 = true := by decide +kernel
end Go.Proofs.YtndjamcbdcjleaaGreatDoor

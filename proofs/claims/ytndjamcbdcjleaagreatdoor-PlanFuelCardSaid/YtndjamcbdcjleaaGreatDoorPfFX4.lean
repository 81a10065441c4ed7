/- Rows of a table of answers (with what they lead to): runs by the evaluator, in the kernel. No conditions. -/
import Derived.Test.YtndjamcbdcjleaaGreatDoorPfH
namespace Go.Proofs.YtndjamcbdcjleaaGreatDoor
open Go.VM
set_option maxRecDepth 1000000 in
theorem face_run32 : @rowRun hookA Tryz.prog laidL 13 key4 faceRow32 = true := by decide +kernel
set_option maxRecDepth 1000000 in
theorem face_run33 : @rowRun hookA Tryz.prog laidL 13 key4 faceRow33 = true := by decide +kernel
set_option maxRecDepth 1000000 in
theorem face_run34 : @rowRun hookA Tryz.prog laidL 13 key4 faceRow34 = true := by decide +kernel
set_option maxRecDepth 1000000 in
theorem face_run35 : @rowRun hookA Tryz.prog laidL 13 key4 faceRow35 = true := by decide +kernel
set_option maxRecDepth 1000000 in
theorem face_run36 : @rowRun hookA Tryz.prog laidL 13 key4 faceRow36 = true := by decide +kernel
set_option maxRecDepth 1000000 in
theorem face_run37 : @rowRun hookA Tryz.prog laidL 13 key4 faceRow37 = true := by decide +kernel
set_option maxRecDepth 1000000 in
theorem face_run38 : @rowRun hookA Tryz.prog laidL 13 key4 faceRow38 = true := by decide +kernel
set_option maxRecDepth 1000000 in
theorem face_run39 : @rowRun hookA Tryz.prog laidL 13 key4 faceRow39 = true := by decide +kernel
end Go.Proofs.YtndjamcbdcjleaaGreatDoor

/- Rows of a table of answers (with what they lead to): runs by the evaluator, in the kernel. No conditions. -/
import Derived.Test.YtndjamcbdcjleaaGreatDoorPfH
namespace Go.Proofs.YtndjamcbdcjleaaGreatDoor
open Go.VM
set_option maxRecDepth 1000000 in
theorem face_run8 : @rowRun hookA Tryz.prog laidL 13 key4 faceRow8 = true := by decide +kernel
set_option maxRecDepth 1000000 in
theorem face_run9 : @rowRun hookA Tryz.prog laidL 13 key4 faceRow9 = true := by decide +kernel
set_option maxRecDepth 1000000 in
theorem face_run10 : @rowRun hookA Tryz.prog laidL 13 key4 faceRow10 = true := by decide +kernel
set_option maxRecDepth 1000000 in
theorem face_run11 : @rowRun hookA Tryz.prog laidL 13 key4 faceRow11 = true := by decide +kernel
set_option maxRecDepth 1000000 in
theorem face_run12 : @rowRun hookA Tryz.prog laidL 13 key4 faceRow12 = true := by decide +kernel
set_option maxRecDepth 1000000 in
theorem face_run13 : @rowRun hookA Tryz.prog laidL 13 key4 faceRow13 = true := by decide +kernel
set_option maxRecDepth 1000000 in
theorem face_run14 : @rowRun hookA Tryz.prog laidL 13 key4 faceRow14 = true := by decide +kernel
set_option maxRecDepth 1000000 in
theorem face_run15 : @rowRun hookA Tryz.prog laidL 13 key4 faceRow15 = true := by decide +kernel
end Go.Proofs.YtndjamcbdcjleaaGreatDoor

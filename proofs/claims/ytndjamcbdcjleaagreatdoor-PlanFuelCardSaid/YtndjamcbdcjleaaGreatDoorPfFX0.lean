/- Rows of a table of answers (with what they lead to): runs by the evaluator, in the kernel. No conditions. -/
import Derived.Test.YtndjamcbdcjleaaGreatDoorPfH
namespace Go.Proofs.YtndjamcbdcjleaaGreatDoor
open Go.VM
set_option maxRecDepth 1000000 in
theorem face_run0 : @rowRun hookA Tryz.prog laidL 13 key4 faceRow0 = true := by decide +kernel
set_option maxRecDepth 1000000 in
theorem face_run1 : @rowRun hookA Tryz.prog laidL 13 key4 faceRow1 = true := by decide +kernel
set_option maxRecDepth 1000000 in
theorem face_run2 : @rowRun hookA Tryz.prog laidL 13 key4 faceRow2 = true := by decide +kernel
set_option maxRecDepth 1000000 in
theorem face_run3 : @rowRun hookA Tryz.prog laidL 13 key4 faceRow3 = true := by decide +kernel
set_option maxRecDepth 1000000 in
theorem face_run4 : @rowRun hookA Tryz.prog laidL 13 key4 faceRow4 = true := by decide +kernel
set_option maxRecDepth 1000000 in
theorem face_run5 : @rowRun hookA Tryz.prog laidL 13 key4 faceRow5 = true := by decide +kernel
set_option maxRecDepth 1000000 in
theorem face_run6 : @rowRun hookA Tryz.prog laidL 13 key4 faceRow6 = true := by decide +kernel
set_option maxRecDepth 1000000 in
theorem face_run7 : @rowRun hookA Tryz.prog laidL 13 key4 faceRow7 = true := by decide +kernel
end Go.Proofs.YtndjamcbdcjleaaGreatDoor

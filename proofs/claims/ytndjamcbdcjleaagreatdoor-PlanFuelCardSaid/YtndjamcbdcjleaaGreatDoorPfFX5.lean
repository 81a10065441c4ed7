/- Rows of a table of answers (with what they lead to): runs by the evaluator, in the kernel. No conditions. -/
import Derived.Test.YtndjamcbdcjleaaGreatDoorPfH
namespace Go.Proofs.YtndjamcbdcjleaaGreatDoor
open Go.VM
set_option maxRecDepth 1000000 in
theorem face_run40 : @rowRun hookA Tryz.prog laidL 13 key4 faceRow40 = true := by decide +kernel
set_option maxRecDepth 1000000 in
theorem face_run41 : @rowRun hookA Tryz.prog laidL 13 key4 faceRow41 = true := by decide +kernel
set_option maxRecDepth 1000000 in
theorem face_run42 : @rowRun hookA Tryz.prog laidL 13 key4 faceRow42 = true := by decide +kernel
set_option maxRecDepth 1000000 in
theorem face_run43 : @rowRun hookA Tryz.prog laidL 13 key4 faceRow43 = true := by decide +kernel
set_option maxRecDepth 1000000 in
theorem face_run44 : @rowRun hookA Tryz.prog laidL 13 key4 faceRow44 = true := by decide +kernel
set_option maxRecDepth 1000000 in
theorem face_run45 : @rowRun hookA Tryz.prog laidL 13 key4 faceRow45 = true := by decide +kernel
set_option maxRecDepth 1000000 in
theorem face_run46 : @rowRun hookA Tryz.prog laidL 13 key4 faceRow46 = true := by decide +kernel
set_option maxRecDepth 1000000 in
theorem face_run47 : @rowRun hookA Tryz.prog laidL 13 key4 faceRow47 = true := by decide +kernel
end Go.Proofs.YtndjamcbdcjleaaGreatDoor

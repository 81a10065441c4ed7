/- Rows of a table of answers (with what they lead to): runs by the evaluator, in the kernel. No conditions. -/
import Derived.Test.YtndjamcbdcjleaaGreatDoorPfH
namespace Go.Proofs.YtndjamcbdcjleaaGreatDoor
open Go.VM
set_option maxRecDepth 1000000 in
theorem face_run24 : @rowRun hookA Tryz.prog laidL 13 key4 faceRow24 = true := by decide +kernel
set_option maxRecDepth 1000000 in
theorem face_run25 : @rowRun hookA Tryz.prog laidL 13 key4 faceRow25 = true := by decide +kernel
set_option maxRecDepth 1000000 in
theorem face_run26 : @rowRun hookA Tryz.prog laidL 13 key4 faceRow26 = true := by decide +kernel
set_option maxRecDepth 1000000 in
theorem face_run27 : @rowRun hookA Tryz.prog laidL 13 key4 faceRow27 = true := by decide +kernel
set_option maxRecDepth 1000000 in
theorem face_run28 : @rowRun hookA Tryz.prog laidL 13 key4 faceRow28 = true := by decide +kernel
set_option maxRecDepth 1000000 in
theorem face_run29 : @rowRun hookA Tryz.prog laidL 13 key4 faceRow29 = true := by decide +kernel
set_option maxRecDepth 1000000 in
theorem face_run30 : @rowRun hookA Tryz.prog laidL 13 key4 faceRow30 = true := by decide +kernel
set_option maxRecDepth 1000000 in
theorem face_run31 : @rowRun hookA Tryz.prog laidL 13 key4 faceRow31 = true := by decide +kernel
end Go.Proofs.YtndjamcbdcjleaaGreatDoor

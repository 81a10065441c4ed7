/- Rows of a table of answers (with what they lead to): runs by the evaluator, in the kernel. No conditions. -/
import Derived.Test.YtndjamcbdcjleaaGreatDoorPfH
namespace Go.Proofs.YtndjamcbdcjleaaGreatDoor
open Go.VM
set_option maxRecDepth 1000000 in
theorem face_run48 : @rowRun hookA Tryz.prog laidL 13 key4 faceRow48 = true := by decide +kernel
set_option maxRecDepth 1000000 in
theorem face_run49 : @rowRun hookA Tryz.prog laidL 13 key4 faceRow49 = true := by decide +kernel
set_option maxRecDepth 1000000 in
theorem face_run50 : @rowRun hookA Tryz.prog laidL 13 key4 faceRow50 = true := by decide +kernel
set_option maxRecDepth 1000000 in
theorem face_run51 : @rowRun hookA Tryz.prog laidL 13 key4 faceRow51 = true := by decide +kernel
set_option maxRecDepth 1000000 in
theorem face_run52 : @rowRun hookA Tryz.prog laidL 13 key4 faceRow52 = true := by decide +kernel
set_option maxRecDepth 1000000 in
theorem face_run53 : @rowRun hookA Tryz.prog laidL 13 key4 faceRow53 = true := by decide +kernel
set_option maxRecDepth 1000000 in
theorem face_run54 : @rowRun hookA Tryz.prog laidL 13 key4 faceRow54 = true := by decide +kernel
set_option maxRecDepth 1000000 in
theorem face_run55 : @rowRun hookA Tryz.prog laidL 13 key4 faceRow55 = true := by decide +kernel
end Go.Proofs.YtndjamcbdcjleaaGreatDoor

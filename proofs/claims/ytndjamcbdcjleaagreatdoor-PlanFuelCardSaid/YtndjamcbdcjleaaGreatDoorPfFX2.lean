/- Rows of a table of answers (with what they lead to): runs by the evaluator, in the kernel. No conditions. -/
import Derived.Test.YtndjamcbdcjleaaGreatDoorPfH
namespace Go.Proofs.YtndjamcbdcjleaaGreatDoor
open Go.VM
set_option maxRecDepth 1000000 in
theorem face_run16 : @rowRun hookA Tryz.prog laidL 13 key4 faceRow16 = true := by decide +kernel
set_option maxRecDepth 1000000 in
theorem face_run17 : @rowRun hookA Tryz.prog laidL 13 key4 faceRow17 = true := by decide +kernel
set_option maxRecDepth 1000000 in
theorem face_run18 : @rowRun hookA Tryz.prog laidL 13 key4 faceRow18 = true := by decide +kernel
set_option maxRecDepth 1000000 in
theorem face_run19 : @rowRun hookA Tryz.prog laidL 13 key4 faceRow19 = true := by decide +kernel
set_option maxRecDepth 1000000 in
theorem face_run20 : @rowRun hookA Tryz.prog laidL 13 key4 faceRow20 = true := by decide +kernel
set_option maxRecDepth 1000000 in
theorem face_run21 : @rowRun hookA Tryz.prog laidL 13 key4 faceRow21 = true := by decide +kernel
set_option maxRecDepth 1000000 in
theorem face_run22 : @rowRun hookA Tryz.prog laidL 13 key4 faceRow22 = true := by decide +kernel
set_option maxRecDepth 1000000 in
theorem face_run23 : @rowRun hookA Tryz.prog laidL 13 key4 faceRow23 = true := by decide +kernel
end Go.Proofs.YtndjamcbdcjleaaGreatDoor

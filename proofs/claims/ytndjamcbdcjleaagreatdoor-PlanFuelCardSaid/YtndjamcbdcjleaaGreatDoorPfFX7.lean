/- Rows of a table of answers (with what they lead to): runs by the evaluator, in the kernel. No conditions. -/
import Derived.Test.YtndjamcbdcjleaaGreatDoorPfH
namespace Go.Proofs.YtndjamcbdcjleaaGreatDoor
open Go.VM
set_option maxRecDepth 1000000 in
theorem face_run56 : @rowRun hookA Tryz.prog laidL 13 key4 faceRow56 = true := by decide +kernel
set_option maxRecDepth 1000000 in
theorem face_run57 : @rowRun hookA Tryz.prog laidL 13 key4 faceRow57 = true := by decide +kernel
set_option maxRecDepth 1000000 in
theorem face_run58 : @rowRun hookA Tryz.prog laidL 13 key4 faceRow58 = true := by decide +kernel
set_option maxRecDepth 1000000 in
theorem face_run59 : @rowRun hookA Tryz.prog laidL 13 key4 faceRow59 = true := by decide +kernel
set_option maxRecDepth 1000000 in
theorem face_run60 : @rowRun hookA Tryz.prog laidL 13 key4 faceRow60 = true := by decide +kernel
set_option maxRecDepth 1000000 in
theorem face_run61 : @rowRun hookA Tryz.prog laidL 13 key4 faceRow61 = true := by decide +kernel
set_option maxRecDepth 1000000 in
theorem face_run62 : @rowRun hookA Tryz.prog laidL 13 key4 faceRow62 = true := by decide +kernel
set_option maxRecDepth 1000000 in
theorem face_run63 : @rowRun hookA Tryz.prog laidL 13 key4 faceRow63 = true := by decide +kernel
end Go.Proofs.YtndjamcbdcjleaaGreatDoor

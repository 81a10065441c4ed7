/- The run of the law's 'awake' by the evaluator, in the kernel: it answers true in every order. No conditions. -/
import Derived.Test.YtckbhajndplkiaaGreatDoorLiH
namespace Go.Proofs.YtckbhajndplkiaaGreatDoor
open Go.VM
set_option maxRecDepth 1000000 in
theorem face_run : @rowRun hookA Tryz.prog laidL 12 key4 faceRow = true := by decide +kernel
set_option maxRecDepth 1000000 in
theorem awake_run : @runF Tryz.prog hookA isTrue 500000 (startSt Tryz.prog laidL 11 []) = true := by decide +kernel
end Go.Proofs.YtckbhajndplkiaaGreatDoor

/- Rows of a table of answers (with what they lead to): runs by the evaluator, in the kernel. No conditions. -/
import Derived.Test.YtpdgopgcodmilaaGreatDoorCrH
namespace Go.Proofs.YtpdgopgcodmilaaGreatDoor
open Go.VM
set_option maxRecDepth 1000000 in
theorem face_run0 : @rowRun hookA Tryz.prog laidL 5 key4 faceRow0 = true := by decide +kernel
end Go.Proofs.YtpdgopgcodmilaaGreatDoor

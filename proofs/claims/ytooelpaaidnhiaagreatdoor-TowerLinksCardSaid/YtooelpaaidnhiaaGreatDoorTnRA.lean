/- The run of the law's 'awake' by the evaluator, in the kernel: it answers true in every order. No conditions. -/
import Derived.Test.YtooelpaaidnhiaaGreatDoorTnH
namespace Go.Proofs.YtooelpaaidnhiaaGreatDoor
open Go.VM
set_option maxRecDepth 1000000 in
theorem awake_run : @runF Tryz.prog hookD isTrue 500000 (startSt Tryz.prog laidL 7 []) = true := by decide +kernel
end Go.Proofs.YtooelpaaidnhiaaGreatDoor

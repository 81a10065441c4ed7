/- Rows that turn memory: runs by the evaluator, in the kernel, in every order. No conditions. -/
import Derived.Test.YtooelpaaidnhiaaGreatDoorTwH
namespace Go.Proofs.YtooelpaaidnhiaaGreatDoor
open Go.VM
set_option maxRecDepth 1000000 in
theorem tw4_ok : QT tw4 := by decide +kernel
end Go.Proofs.YtooelpaaidnhiaaGreatDoor

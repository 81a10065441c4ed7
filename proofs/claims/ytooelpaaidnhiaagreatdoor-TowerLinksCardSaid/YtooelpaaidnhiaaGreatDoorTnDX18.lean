/- Rows that turn memory: runs by the evaluator, in the kernel, in every order. No conditions. -/
import Derived.Test.YtooelpaaidnhiaaGreatDoorTnH
namespace Go.Proofs.YtooelpaaidnhiaaGreatDoor
open Go.VM
theorem dw288_ok : QD dw288 := by decide +kernel
end Go.Proofs.YtooelpaaidnhiaaGreatDoor

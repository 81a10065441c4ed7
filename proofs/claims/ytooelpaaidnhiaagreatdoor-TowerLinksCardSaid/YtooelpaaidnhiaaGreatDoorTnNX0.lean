/- Rows that turn memory: runs by the evaluator, in the kernel, in every order. No conditions. -/
import Derived.Test.YtooelpaaidnhiaaGreatDoorTnH
namespace Go.Proofs.YtooelpaaidnhiaaGreatDoor
open Go.VM
theorem nw0_ok : QN nw0 := by decide +kernel
theorem nw1_ok : QN nw1 := by decide +kernel
end Go.Proofs.YtooelpaaidnhiaaGreatDoor

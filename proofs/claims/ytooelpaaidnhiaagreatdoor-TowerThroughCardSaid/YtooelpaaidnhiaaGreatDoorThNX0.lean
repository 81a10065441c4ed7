/- Rows that turn memory: runs by the evaluator, in the kernel, in every order. No conditions. -/
import Derived.Test.YtooelpaaidnhiaaGreatDoorThH
namespace Go.Proofs.YtooelpaaidnhiaaGreatDoor
open Go.VM
set_option maxRecDepth 1000000 in
theorem nw0_ok : QN nw0 := by decide +kernel
set_option maxRecDepth 1000000 in
theorem nw1_ok : QN nw1 := by decide +kernel
end Go.Proofs.YtooelpaaidnhiaaGreatDoor

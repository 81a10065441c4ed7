/- Rows that turn memory: runs by the evaluator, in the kernel, in every order. No conditions. -/
import Derived.Test.YtbblahphgmkgnaaGreatDoorTdH
namespace Go.Proofs.YtbblahphgmkgnaaGreatDoor
open Go.VM
theorem dw154_ok : QD dw154 := by decide +kernel
theorem dw155_ok : QD dw155 := by decide +kernel
theorem dw156_ok : QD dw156 := by decide +kernel
end Go.Proofs.YtbblahphgmkgnaaGreatDoor

/- Rows that turn memory: runs by the evaluator, in the kernel, in every order. No conditions. -/
import Derived.Test.YtbblahphgmkgnaaGreatDoorTdH
namespace Go.Proofs.YtbblahphgmkgnaaGreatDoor
open Go.VM
theorem dw35_ok : QD dw35 := by decide +kernel
theorem dw36_ok : QD dw36 := by decide +kernel
theorem dw37_ok : QD dw37 := by decide +kernel
theorem dw38_ok : QD dw38 := by decide +kernel
theorem dw39_ok : QD dw39 := by decide +kernel
theorem dw40_ok : QD dw40 := by decide +kernel
theorem dw41_ok : QD dw41 := by decide +kernel
end Go.Proofs.YtbblahphgmkgnaaGreatDoor

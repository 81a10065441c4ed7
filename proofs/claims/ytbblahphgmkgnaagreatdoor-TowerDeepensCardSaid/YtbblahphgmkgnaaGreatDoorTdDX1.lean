/- Rows that turn memory: runs by the evaluator, in the kernel, in every order. No conditions. -/
import Derived.Test.YtbblahphgmkgnaaGreatDoorTdH
namespace Go.Proofs.YtbblahphgmkgnaaGreatDoor
open Go.VM
theorem dw7_ok : QD dw7 := by decide +kernel
theorem dw8_ok : QD dw8 := by decide +kernel
theorem dw9_ok : QD dw9 := by decide +kernel
theorem dw10_ok : QD dw10 := by decide +kernel
theorem dw11_ok : QD dw11 := by decide +kernel
theorem dw12_ok : QD dw12 := by decide +kernel
theorem dw13_ok : QD dw13 := by decide +kernel
end Go.Proofs.YtbblahphgmkgnaaGreatDoor

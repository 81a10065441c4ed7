/- Rows that turn memory: runs by the evaluator, in the kernel, in every order. No conditions. -/
import Derived.Test.YtbblahphgmkgnaaGreatDoorTdH
namespace Go.Proofs.YtbblahphgmkgnaaGreatDoor
open Go.VM
theorem dw0_ok : QD dw0 := by decide +kernel
theorem dw1_ok : QD dw1 := by decide +kernel
theorem dw2_ok : QD dw2 := by decide +kernel
theorem dw3_ok : QD dw3 := by decide +kernel
theorem dw4_ok : QD dw4 := by decide +kernel
theorem dw5_ok : QD dw5 := by decide +kernel
theorem dw6_ok : QD dw6 := by decide +kernel
end Go.Proofs.YtbblahphgmkgnaaGreatDoor

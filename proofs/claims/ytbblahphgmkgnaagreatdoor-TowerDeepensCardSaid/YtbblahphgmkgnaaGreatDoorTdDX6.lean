/- Rows that turn memory: runs by the evaluator, in the kernel, in every order. No conditions. -/
import Derived.Test.YtbblahphgmkgnaaGreatDoorTdH
namespace Go.Proofs.YtbblahphgmkgnaaGreatDoor
open Go.VM
theorem dw42_ok : QD dw42 := by decide +kernel
theorem dw43_ok : QD dw43 := by decide +kernel
theorem dw44_ok : QD dw44 := by decide +kernel
theorem dw45_ok : QD dw45 := by decide +kernel
theorem dw46_ok : QD dw46 := by decide +kernel
theorem dw47_ok : QD dw47 := by decide +kernel
theorem dw48_ok : QD dw48 := by decide +kernel
end Go.Proofs.YtbblahphgmkgnaaGreatDoor

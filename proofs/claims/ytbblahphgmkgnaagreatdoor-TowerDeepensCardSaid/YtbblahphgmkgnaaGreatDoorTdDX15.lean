/- Rows that turn memory: runs by the evaluator, in the kernel, in every order. No conditions. -/
import Derived.Test.YtbblahphgmkgnaaGreatDoorTdH
namespace Go.Proofs.YtbblahphgmkgnaaGreatDoor
open Go.VM
theorem dw105_ok : QD dw105 := by decide +kernel
theorem dw106_ok : QD dw106 := by decide +kernel
theorem dw107_ok : QD dw107 := by decide +kernel
theorem dw108_ok : QD dw108 := by decide +kernel
theorem dw109_ok : QD dw109 := by decide +kernel
theorem dw110_ok : QD dw110 := by decide +kernel
theorem dw111_ok : QD dw111 := by decide +kernel
end Go.Proofs.YtbblahphgmkgnaaGreatDoor

/- Rows that turn memory: runs by the evaluator, in the kernel, in every order. No conditions. -/
import Derived.Test.YtbblahphgmkgnaaGreatDoorTdH
namespace Go.Proofs.YtbblahphgmkgnaaGreatDoor
open Go.VM
theorem dw133_ok : QD dw133 := by decide +kernel
theorem dw134_ok : QD dw134 := by decide +kernel
theorem dw135_ok : QD dw135 := by decide +kernel
theorem dw136_ok : QD dw136 := by decide +kernel
theorem dw137_ok : QD dw137 := by decide +kernel
theorem dw138_ok : QD dw138 := by decide +kernel
theorem dw139_ok : QD dw139 := by decide +kernel
end Go.Proofs.YtbblahphgmkgnaaGreatDoor

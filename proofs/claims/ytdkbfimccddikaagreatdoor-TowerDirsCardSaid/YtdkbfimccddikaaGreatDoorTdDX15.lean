/- Rows that turn memory: runs by the evaluator, in the kernel, in every order. No conditions. -/
import Derived.Test.YtdkbfimccddikaaGreatDoorTdH
namespace Go.Proofs.YtdkbfimccddikaaGreatDoor
open Go.VM
theorem dw135_ok : QD dw135 := by decide +kernel
theorem dw136_ok : QD dw136 := by decide +kernel
theorem dw137_ok : QD dw137 := by decide +kernel
theorem dw138_ok : QD dw138 := by decide +kernel
theorem dw139_ok : QD dw139 := by decide +kernel
theorem dw140_ok : QD dw140 := by decide +kernel
theorem dw141_ok : QD dw141 := by decide +kernel
theorem dw142_ok : QD dw142 := by decide +kernel
theorem dw143_ok : QD dw143 := by decide +kernel
end Go.Proofs.YtdkbfimccddikaaGreatDoor

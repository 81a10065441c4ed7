/- Rows that turn memory: runs by the evaluator, in the kernel, in every order. No conditions. -/
import Derived.Test.YtdkbfimccddikaaGreatDoorTdH
namespace Go.Proofs.YtdkbfimccddikaaGreatDoor
open Go.VM
theorem dw36_ok : QD dw36 := by decide +kernel
theorem dw37_ok : QD dw37 := by decide +kernel
theorem dw38_ok : QD dw38 := by decide +kernel
theorem dw39_ok : QD dw39 := by decide +kernel
theorem dw40_ok : QD dw40 := by decide +kernel
theorem dw41_ok : QD dw41 := by decide +kernel
theorem dw42_ok : QD dw42 := by decide +kernel
theorem dw43_ok : QD dw43 := by decide +kernel
theorem dw44_ok : QD dw44 := by decide +kernel
end Go.Proofs.YtdkbfimccddikaaGreatDoor

/- Rows that turn memory: runs by the evaluator, in the kernel, in every order. No conditions. -/
import Derived.Test.YtdkbfimccddikaaGreatDoorTfH
namespace Go.Proofs.YtdkbfimccddikaaGreatDoor
open Go.VM
theorem dw30_ok : QD dw30 := by decide +kernel
theorem dw31_ok : QD dw31 := by decide +kernel
theorem dw32_ok : QD dw32 := by decide +kernel
theorem dw33_ok : QD dw33 := by decide +kernel
theorem dw34_ok : QD dw34 := by decide +kernel
theorem dw35_ok : QD dw35 := by decide +kernel
theorem dw36_ok : QD dw36 := by decide +kernel
theorem dw37_ok : QD dw37 := by decide +kernel
theorem dw38_ok : QD dw38 := by decide +kernel
theorem dw39_ok : QD dw39 := by decide +kernel
end Go.Proofs.YtdkbfimccddikaaGreatDoor

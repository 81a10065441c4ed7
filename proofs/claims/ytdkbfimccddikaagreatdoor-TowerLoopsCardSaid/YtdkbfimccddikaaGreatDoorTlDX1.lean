/- Rows that turn memory: runs by the evaluator, in the kernel, in every order. No conditions. -/
import Derived.Test.YtdkbfimccddikaaGreatDoorTlH
namespace Go.Proofs.YtdkbfimccddikaaGreatDoor
open Go.VM
theorem dw6_ok : QD dw6 := by decide +kernel
theorem dw7_ok : QD dw7 := by decide +kernel
theorem dw8_ok : QD dw8 := by decide +kernel
theorem dw9_ok : QD dw9 := by decide +kernel
theorem dw10_ok : QD dw10 := by decide +kernel
theorem dw11_ok : QD dw11 := by decide +kernel
end Go.Proofs.YtdkbfimccddikaaGreatDoor

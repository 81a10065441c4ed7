/- Rows that turn memory: runs by the evaluator, in the kernel, in every order. No conditions. -/
import Derived.Test.YtdkbfimccddikaaGreatDoorTmH
namespace Go.Proofs.YtdkbfimccddikaaGreatDoor
open Go.VM
theorem dw4_ok : QD dw4 := by decide +kernel
theorem dw5_ok : QD dw5 := by decide +kernel
theorem dw6_ok : QD dw6 := by decide +kernel
theorem dw7_ok : QD dw7 := by decide +kernel
end Go.Proofs.YtdkbfimccddikaaGreatDoor

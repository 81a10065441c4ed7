/- Rows that turn memory: runs by the evaluator, in the kernel, in every order. No conditions. -/
import Derived.Test.YtdkbfimccddikaaGreatDoorTmH
namespace Go.Proofs.YtdkbfimccddikaaGreatDoor
open Go.VM
theorem dw28_ok : QD dw28 := by decide +kernel
theorem dw29_ok : QD dw29 := by decide +kernel
theorem dw30_ok : QD dw30 := by decide +kernel
theorem dw31_ok : QD dw31 := by decide +kernel
end Go.Proofs.YtdkbfimccddikaaGreatDoor

/- Rows that turn memory: runs by the evaluator, in the kernel, in every order. No conditions. -/
import Derived.Test.YtdkbfimccddikaaGreatDoorTmH
namespace Go.Proofs.YtdkbfimccddikaaGreatDoor
open Go.VM
theorem dw40_ok : QD dw40 := by decide +kernel
theorem dw41_ok : QD dw41 := by decide +kernel
theorem dw42_ok : QD dw42 := by decide +kernel
theorem dw43_ok : QD dw43 := by decide +kernel
end Go.Proofs.YtdkbfimccddikaaGreatDoor

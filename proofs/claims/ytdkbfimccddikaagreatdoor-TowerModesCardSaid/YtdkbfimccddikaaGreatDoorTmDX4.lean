/- Rows that turn memory: runs by the evaluator, in the kernel, in every order. No conditions. -/
import Derived.Test.YtdkbfimccddikaaGreatDoorTmH
namespace Go.Proofs.YtdkbfimccddikaaGreatDoor
open Go.VM
theorem dw16_ok : QD dw16 := by decide +kernel
theorem dw17_ok : QD dw17 := by decide +kernel
theorem dw18_ok : QD dw18 := by decide +kernel
theorem dw19_ok : QD dw19 := by decide +kernel
end Go.Proofs.YtdkbfimccddikaaGreatDoor

/- Rows that turn memory: runs by the evaluator, in the kernel, in every order. No conditions. -/
import Derived.Test.YtdkbfimccddikaaGreatDoorTmH
namespace Go.Proofs.YtdkbfimccddikaaGreatDoor
open Go.VM
theorem dw52_ok : QD dw52 := by decide +kernel
theorem dw53_ok : QD dw53 := by decide +kernel
theorem dw54_ok : QD dw54 := by decide +kernel
theorem dw55_ok : QD dw55 := by decide +kernel
end Go.Proofs.YtdkbfimccddikaaGreatDoor

/- Rows that turn memory: runs by the evaluator, in the kernel, in every order. No conditions. -/
import Derived.Test.YtdkbfimccddikaaGreatDoorTmH
namespace Go.Proofs.YtdkbfimccddikaaGreatDoor
open Go.VM
theorem dw76_ok : QD dw76 := by decide +kernel
theorem dw77_ok : QD dw77 := by decide +kernel
theorem dw78_ok : QD dw78 := by decide +kernel
theorem dw79_ok : QD dw79 := by decide +kernel
end Go.Proofs.YtdkbfimccddikaaGreatDoor

/- Rows that turn memory: runs by the evaluator, in the kernel, in every order. No conditions. -/
import Derived.Test.YtdkbfimccddikaaGreatDoorTlH
namespace Go.Proofs.YtdkbfimccddikaaGreatDoor
open Go.VM
theorem dw96_ok : QD dw96 := by decide +kernel
theorem dw97_ok : QD dw97 := by decide +kernel
theorem dw98_ok : QD dw98 := by decide +kernel
theorem dw99_ok : QD dw99 := by decide +kernel
theorem dw100_ok : QD dw100 := by decide +kernel
theorem dw101_ok : QD dw101 := by decide +kernel
end Go.Proofs.YtdkbfimccddikaaGreatDoor

/- Rows that turn memory: runs by the evaluator, in the kernel, in every order. No conditions. -/
import Derived.Test.YtdkbfimccddikaaGreatDoorTmH
namespace Go.Proofs.YtdkbfimccddikaaGreatDoor
open Go.VM
theorem dw84_ok : QD dw84 := by decide +kernel
theorem dw85_ok : QD dw85 := by decide +kernel
theorem dw86_ok : QD dw86 := by decide +kernel
end Go.Proofs.YtdkbfimccddikaaGreatDoor

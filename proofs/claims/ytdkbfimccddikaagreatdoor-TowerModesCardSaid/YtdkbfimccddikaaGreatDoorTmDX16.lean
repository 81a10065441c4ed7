/- Rows that turn memory: runs by the evaluator, in the kernel, in every order. No conditions. -/
import Derived.Test.YtdkbfimccddikaaGreatDoorTmH
namespace Go.Proofs.YtdkbfimccddikaaGreatDoor
open Go.VM
theorem dw64_ok : QD dw64 := by decide +kernel
theorem dw65_ok : QD dw65 := by decide +kernel
theorem dw66_ok : QD dw66 := by decide +kernel
theorem dw67_ok : QD dw67 := by decide +kernel
end Go.Proofs.YtdkbfimccddikaaGreatDoor

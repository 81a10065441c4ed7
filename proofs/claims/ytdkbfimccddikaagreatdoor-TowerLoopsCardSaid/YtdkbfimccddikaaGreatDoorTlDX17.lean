/- Rows that turn memory: runs by the evaluator, in the kernel, in every order. No conditions. -/
import Derived.Test.YtdkbfimccddikaaGreatDoorTlH
namespace Go.Proofs.YtdkbfimccddikaaGreatDoor
open Go.VM
theorem dw102_ok : QD dw102 := by decide +kernel
theorem dw103_ok : QD dw103 := by decide +kernel
theorem dw104_ok : QD dw104 := by decide +kernel
theorem dw105_ok : QD dw105 := by decide +kernel
theorem dw106_ok : QD dw106 := by decide +kernel
theorem dw107_ok : QD dw107 := by decide +kernel
end Go.Proofs.YtdkbfimccddikaaGreatDoor

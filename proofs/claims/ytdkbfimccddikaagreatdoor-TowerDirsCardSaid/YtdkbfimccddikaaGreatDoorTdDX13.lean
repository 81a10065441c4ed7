/- Rows that turn memory: runs by the evaluator, in the kernel, in every order. No conditions. -/
import Derived.Test.YtdkbfimccddikaaGreatDoorTdH
namespace Go.Proofs.YtdkbfimccddikaaGreatDoor
open Go.VM
theorem dw117_ok : QD dw117 := by decide +kernel
theorem dw118_ok : QD dw118 := by decide +kernel
theorem dw119_ok : QD dw119 := by decide +kernel
theorem dw120_ok : QD dw120 := by decide +kernel
theorem dw121_ok : QD dw121 := by decide +kernel
theorem dw122_ok : QD dw122 := by decide +kernel
theorem dw123_ok : QD dw123 := by decide +kernel
theorem dw124_ok : QD dw124 := by decide +kernel
theorem dw125_ok : QD dw125 := by decide +kernel
end Go.Proofs.YtdkbfimccddikaaGreatDoor

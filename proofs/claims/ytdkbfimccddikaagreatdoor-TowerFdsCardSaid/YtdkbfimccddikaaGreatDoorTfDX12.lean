/- Rows that turn memory: runs by the evaluator, in the kernel, in every order. No conditions. -/
import Derived.Test.YtdkbfimccddikaaGreatDoorTfH
namespace Go.Proofs.YtdkbfimccddikaaGreatDoor
open Go.VM
theorem dw120_ok : QD dw120 := by decide +kernel
theorem dw121_ok : QD dw121 := by decide +kernel
theorem dw122_ok : QD dw122 := by decide +kernel
theorem dw123_ok : QD dw123 := by decide +kernel
theorem dw124_ok : QD dw124 := by decide +kernel
theorem dw125_ok : QD dw125 := by decide +kernel
theorem dw126_ok : QD dw126 := by decide +kernel
theorem dw127_ok : QD dw127 := by decide +kernel
theorem dw128_ok : QD dw128 := by decide +kernel
theorem dw129_ok : QD dw129 := by decide +kernel
end Go.Proofs.YtdkbfimccddikaaGreatDoor

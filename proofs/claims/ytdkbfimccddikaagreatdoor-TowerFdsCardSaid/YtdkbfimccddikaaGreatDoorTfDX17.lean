/- Rows that turn memory: runs by the evaluator, in the kernel, in every order. No conditions. -/
import Derived.Test.YtdkbfimccddikaaGreatDoorTfH
namespace Go.Proofs.YtdkbfimccddikaaGreatDoor
open Go.VM
theorem dw170_ok : QD dw170 := by decide +kernel
theorem dw171_ok : QD dw171 := by decide +kernel
theorem dw172_ok : QD dw172 := by decide +kernel
theorem dw173_ok : QD dw173 := by decide +kernel
theorem dw174_ok : QD dw174 := by decide +kernel
theorem dw175_ok : QD dw175 := by decide +kernel
theorem dw176_ok : QD dw176 := by decide +kernel
theorem dw177_ok : QD dw177 := by decide +kernel
theorem dw178_ok : QD dw178 := by decide +kernel
theorem dw179_ok : QD dw179 := by decide +kernel
end Go.Proofs.YtdkbfimccddikaaGreatDoor

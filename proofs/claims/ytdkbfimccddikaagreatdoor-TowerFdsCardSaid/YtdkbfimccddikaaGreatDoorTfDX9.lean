/- Rows that turn memory: runs by the evaluator, in the kernel, in every order. No conditions. -/
import Derived.Test.YtdkbfimccddikaaGreatDoorTfH
namespace Go.Proofs.YtdkbfimccddikaaGreatDoor
open Go.VM
theorem dw90_ok : QD dw90 := by decide +kernel
theorem dw91_ok : QD dw91 := by decide +kernel
theorem dw92_ok : QD dw92 := by decide +kernel
theorem dw93_ok : QD dw93 := by decide +kernel
theorem dw94_ok : QD dw94 := by decide +kernel
theorem dw95_ok : QD dw95 := by decide +kernel
theorem dw96_ok : QD dw96 := by decide +kernel
theorem dw97_ok : QD dw97 := by decide +kernel
theorem dw98_ok : QD dw98 := by decide +kernel
theorem dw99_ok : QD dw99 := by decide +kernel
end Go.Proofs.YtdkbfimccddikaaGreatDoor

/- Rows that turn memory: runs by the evaluator, in the kernel, in every order. No conditions. -/
import Derived.Test.YtbblahphgmkgnaaGreatDoorTdH
namespace Go.Proofs.YtbblahphgmkgnaaGreatDoor
open Go.VM
theorem dw91_ok : QD dw91 := by decide +kernel
theorem dw92_ok : QD dw92 := by decide +kernel
theorem dw93_ok : QD dw93 := by decide +kernel
theorem dw94_ok : QD dw94 := by decide +kernel
theorem dw95_ok : QD dw95 := by decide +kernel
theorem dw96_ok : QD dw96 := by decide +kernel
theorem dw97_ok : QD dw97 := by decide +kernel
end Go.Proofs.YtbblahphgmkgnaaGreatDoor

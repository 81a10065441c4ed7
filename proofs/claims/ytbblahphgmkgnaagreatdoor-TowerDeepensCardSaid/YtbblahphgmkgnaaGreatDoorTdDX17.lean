/- Rows that turn memory: runs by the evaluator, in the kernel, in every order. No conditions. -/
import Derived.Test.YtbblahphgmkgnaaGreatDoorTdH
namespace Go.Proofs.YtbblahphgmkgnaaGreatDoor
open Go.VM
theorem dw119_ok : QD dw119 := by decide +kernel
theorem dw120_ok : QD dw120 := by decide +kernel
theorem dw121_ok : QD dw121 := by decide +kernel
theorem dw122_ok : QD dw122 := by decide +kernel
theorem dw123_ok : QD dw123 := by decide +kernel
theorem dw124_ok : QD dw124 := by decide +kernel
theorem dw125_ok : QD dw125 := by decide +kernel
end Go.Proofs.YtbblahphgmkgnaaGreatDoor

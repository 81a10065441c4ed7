/- Rows that turn memory: runs by the evaluator, in the kernel, in every order. No conditions. -/
import Derived.Test.YtbblahphgmkgnaaGreatDoorTdH
namespace Go.Proofs.YtbblahphgmkgnaaGreatDoor
open Go.VM
theorem dw84_ok : QD dw84 := by decide +kernel
theorem dw85_ok : QD dw85 := by decide +kernel
theorem dw86_ok : QD dw86 := by decide +kernel
theorem dw87_ok : QD dw87 := by decide +kernel
theorem dw88_ok : QD dw88 := by decide +kernel
theorem dw89_ok : QD dw89 := by decide +kernel
theorem dw90_ok : QD dw90 := by decide +kernel
end Go.Proofs.YtbblahphgmkgnaaGreatDoor

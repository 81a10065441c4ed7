/- Rows that turn memory: runs by the evaluator, in the kernel, in every order. No conditions. -/
import Derived.Test.YtbblahphgmkgnaaGreatDoorTdH
namespace Go.Proofs.YtbblahphgmkgnaaGreatDoor
open Go.VM
theorem dw140_ok : QD dw140 := by decide +kernel
theorem dw141_ok : QD dw141 := by decide +kernel
theorem dw142_ok : QD dw142 := by decide +kernel
theorem dw143_ok : QD dw143 := by decide +kernel
theorem dw144_ok : QD dw144 := by decide +kernel
theorem dw145_ok : QD dw145 := by decide +kernel
theorem dw146_ok : QD dw146 := by decide +kernel
end Go.Proofs.YtbblahphgmkgnaaGreatDoor

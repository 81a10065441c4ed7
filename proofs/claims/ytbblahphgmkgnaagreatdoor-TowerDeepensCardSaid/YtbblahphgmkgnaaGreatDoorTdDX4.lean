/- Rows that turn memory: runs by the evaluator, in the kernel, in every order. No conditions. -/
import Derived.Test.YtbblahphgmkgnaaGreatDoorTdH
namespace Go.Proofs.YtbblahphgmkgnaaGreatDoor
open Go.VM
theorem dw28_ok : QD dw28 := by decide +kernel
theorem dw29_ok : QD dw29 := by decide +kernel
theorem dw30_ok : QD dw30 := by decide +kernel
theorem dw31_ok : QD dw31 := by decide +kernel
theorem dw32_ok : QD dw32 := by decide +kernel
theorem dw33_ok : QD dw33 := by decide +kernel
theorem dw34_ok : QD dw34 := by decide +kernel
end Go.Proofs.YtbblahphgmkgnaaGreatDoor

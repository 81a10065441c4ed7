/- Rows that turn memory: runs by the evaluator, in the kernel, in every order. No conditions. -/
import Derived.Test.YtbblahphgmkgnaaGreatDoorTdH
namespace Go.Proofs.YtbblahphgmkgnaaGreatDoor
open Go.VM
theorem dw49_ok : QD dw49 := by decide +kernel
theorem dw50_ok : QD dw50 := by decide +kernel
theorem dw51_ok : QD dw51 := by decide +kernel
theorem dw52_ok : QD dw52 := by decide +kernel
theorem dw53_ok : QD dw53 := by decide +kernel
theorem dw54_ok : QD dw54 := by decide +kernel
theorem dw55_ok : QD dw55 := by decide +kernel
end Go.Proofs.YtbblahphgmkgnaaGreatDoor

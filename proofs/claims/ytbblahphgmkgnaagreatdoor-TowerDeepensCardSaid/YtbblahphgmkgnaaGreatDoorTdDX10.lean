/- Rows that turn memory: runs by the evaluator, in the kernel, in every order. No conditions. -/
import Derived.Test.YtbblahphgmkgnaaGreatDoorTdH
namespace Go.Proofs.YtbblahphgmkgnaaGreatDoor
open Go.VM
theorem dw70_ok : QD dw70 := by decide +kernel
theorem dw71_ok : QD dw71 := by decide +kernel
theorem dw72_ok : QD dw72 := by decide +kernel
theorem dw73_ok : QD dw73 := by decide +kernel
theorem dw74_ok : QD dw74 := by decide +kernel
theorem dw75_ok : QD dw75 := by decide +kernel
theorem dw76_ok : QD dw76 := by decide +kernel
end Go.Proofs.YtbblahphgmkgnaaGreatDoor

/- Rows that turn memory: runs by the evaluator, in the kernel, in every order. No conditions. -/
import Derived.Test.YtbblahphgmkgnaaGreatDoorTdH
namespace Go.Proofs.YtbblahphgmkgnaaGreatDoor
open Go.VM
theorem dw14_ok : QD dw14 := by decide +kernel
theorem dw15_ok : QD dw15 := by decide +kernel
theorem dw16_ok : QD dw16 := by decide +kernel
theorem dw17_ok : QD dw17 := by decide +kernel
theorem dw18_ok : QD dw18 := by decide +kernel
theorem dw19_ok : QD dw19 := by decide +kernel
theorem dw20_ok : QD dw20 := by decide +kernel
end Go.Proofs.YtbblahphgmkgnaaGreatDoor

/- Rows that turn memory: runs by the evaluator, in the kernel, in every order. No conditions. -/
import Derived.Test.YtbblahphgmkgnaaGreatDoorTdH
namespace Go.Proofs.YtbblahphgmkgnaaGreatDoor
open Go.VM
theorem dw21_ok : QD dw21 := by decide +kernel
theorem dw22_ok : QD dw22 := by decide +kernel
theorem dw23_ok : QD dw23 := by decide +kernel
theorem dw24_ok : QD dw24 := by decide +kernel
theorem dw25_ok : QD dw25 := by decide +kernel
theorem dw26_ok : QD dw26 := by decide +kernel
theorem dw27_ok : QD dw27 := by decide +kernel
end Go.Proofs.YtbblahphgmkgnaaGreatDoor

/- Rows that turn memory: runs by the evaluator, in the kernel, in every order. No conditions. -/
import Derived.Test.YtbblahphgmkgnaaGreatDoorTdH
namespace Go.Proofs.YtbblahphgmkgnaaGreatDoor
open Go.VM
theorem dw112_ok : QD dw112 := by decide +kernel
theorem dw113_ok : QD dw113 := by decide +kernel
theorem dw114_ok : QD dw114 := by decide +kernel
theorem dw115_ok : QD dw115 := by decide +kernel
theorem dw116_ok : QD dw116 := by decide +kernel
theorem dw117_ok : QD dw117 := by decide +kernel
theorem dw118_ok : QD dw118 := by decide +kernel
end Go.Proofs.YtbblahphgmkgnaaGreatDoor

/- Rows that turn memory: runs by the evaluator, in the kernel, in every order. No conditions. -/
import Derived.Test.YtbblahphgmkgnaaGreatDoorTdH
namespace Go.Proofs.YtbblahphgmkgnaaGreatDoor
open Go.VM
theorem dw98_ok : QD dw98 := by decide +kernel
theorem dw99_ok : QD dw99 := by decide +kernel
theorem dw100_ok : QD dw100 := by decide +kernel
theorem dw101_ok : QD dw101 := by decide +kernel
theorem dw102_ok : QD dw102 := by decide +kernel
theorem dw103_ok : QD dw103 := by decide +kernel
theorem dw104_ok : QD dw104 := by decide +kernel
end Go.Proofs.YtbblahphgmkgnaaGreatDoor

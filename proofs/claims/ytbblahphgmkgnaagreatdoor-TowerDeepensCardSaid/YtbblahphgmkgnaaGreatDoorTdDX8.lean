/- Rows that turn memory: runs by the evaluator, in the kernel, in every order. No conditions. -/
import Derived.Test.YtbblahphgmkgnaaGreatDoorTdH
namespace Go.Proofs.YtbblahphgmkgnaaGreatDoor
open Go.VM
theorem dw56_ok : QD dw56 := by decide +kernel
theorem dw57_ok : QD dw57 := by decide +kernel
theorem dw58_ok : QD dw58 := by decide +kernel
theorem dw59_ok : QD dw59 := by decide +kernel
theorem dw60_ok : QD dw60 := by decide +kernel
theorem dw61_ok : QD dw61 := by decide +kernel
theorem dw62_ok : QD dw62 := by decide +kernel
end Go.Proofs.YtbblahphgmkgnaaGreatDoor

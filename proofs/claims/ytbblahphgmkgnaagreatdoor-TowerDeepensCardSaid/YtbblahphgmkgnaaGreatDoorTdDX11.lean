/- Rows that turn memory: runs by the evaluator, in the kernel, in every order. No conditions. -/
import Derived.Test.YtbblahphgmkgnaaGreatDoorTdH
namespace Go.Proofs.YtbblahphgmkgnaaGreatDoor
open Go.VM
theorem dw77_ok : QD dw77 := by decide +kernel
theorem dw78_ok : QD dw78 := by decide +kernel
theorem dw79_ok : QD dw79 := by decide +kernel
theorem dw80_ok : QD dw80 := by decide +kernel
theorem dw81_ok : QD dw81 := by decide +kernel
theorem dw82_ok : QD dw82 := by decide +kernel
theorem dw83_ok : QD dw83 := by decide +kernel
end Go.Proofs.YtbblahphgmkgnaaGreatDoor

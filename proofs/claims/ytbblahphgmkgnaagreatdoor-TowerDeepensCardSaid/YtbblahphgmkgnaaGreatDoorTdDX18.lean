/- Rows that turn memory: runs by the evaluator, in the kernel, in every order. No conditions. -/
import Derived.Test.YtbblahphgmkgnaaGreatDoorTdH
namespace Go.Proofs.YtbblahphgmkgnaaGreatDoor
open Go.VM
theorem dw126_ok : QD dw126 := by decide +kernel
theorem dw127_ok : QD dw127 := by decide +kernel
theorem dw128_ok : QD dw128 := by decide +kernel
theorem dw129_ok : QD dw129 := by decide +kernel
theorem dw130_ok : QD dw130 := by decide +kernel
theorem dw131_ok : QD dw131 := by decide +kernel
theorem dw132_ok : QD dw132 := by decide +kernel
end Go.Proofs.YtbblahphgmkgnaaGreatDoor

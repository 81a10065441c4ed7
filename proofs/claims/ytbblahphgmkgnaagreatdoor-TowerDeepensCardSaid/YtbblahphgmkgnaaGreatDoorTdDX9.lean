/- Rows that turn memory: runs by the evaluator, in the kernel, in every order. No conditions. -/
import Derived.Test.YtbblahphgmkgnaaGreatDoorTdH
namespace Go.Proofs.YtbblahphgmkgnaaGreatDoor
open Go.VM
theorem dw63_ok : QD dw63 := by decide +kernel
theorem dw64_ok : QD dw64 := by decide +kernel
theorem dw65_ok : QD dw65 := by decide +kernel
theorem dw66_ok : QD dw66 := by decide +kernel
theorem dw67_ok : QD dw67 := by decide +kernel
theorem dw68_ok : QD dw68 := by decide +kernel
theorem dw69_ok : QD dw69 := by decide +kernel
end Go.Proofs.YtbblahphgmkgnaaGreatDoor

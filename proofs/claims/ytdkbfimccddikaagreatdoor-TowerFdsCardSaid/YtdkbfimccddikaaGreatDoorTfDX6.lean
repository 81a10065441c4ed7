/- Rows that turn memory: runs by the evaluator, in the kernel, in every order. No conditions. -/
import Derived.Test.YtdkbfimccddikaaGreatDoorTfH
namespace Go.Proofs.YtdkbfimccddikaaGreatDoor
open Go.VM
theorem dw60_ok : QD dw60 := by decide +kernel
theorem dw61_ok : QD dw61 := by decide +kernel
theorem dw62_ok : QD dw62 := by decide +kernel
theorem dw63_ok : QD dw63 := by decide +kernel
theorem dw64_ok : QD dw64 := by decide +kernel
theorem dw65_ok : QD dw65 := by decide +kernel
theorem dw66_ok : QD dw66 := by decide +kernel
theorem dw67_ok : QD dw67 := by decide +kernel
theorem dw68_ok : QD dw68 := by decide +kernel
theorem dw69_ok : QD dw69 := by decide +kernel
end Go.Proofs.YtdkbfimccddikaaGreatDoor

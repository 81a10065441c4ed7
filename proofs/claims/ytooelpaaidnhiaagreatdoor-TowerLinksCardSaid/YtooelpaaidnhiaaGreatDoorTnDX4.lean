/- Rows that turn memory: runs by the evaluator, in the kernel, in every order. No conditions. -/
import Derived.Test.YtooelpaaidnhiaaGreatDoorTnH
namespace Go.Proofs.YtooelpaaidnhiaaGreatDoor
open Go.VM
theorem dw64_ok : QD dw64 := by decide +kernel
theorem dw65_ok : QD dw65 := by decide +kernel
theorem dw66_ok : QD dw66 := by decide +kernel
theorem dw67_ok : QD dw67 := by decide +kernel
theorem dw68_ok : QD dw68 := by decide +kernel
theorem dw69_ok : QD dw69 := by decide +kernel
theorem dw70_ok : QD dw70 := by decide +kernel
theorem dw71_ok : QD dw71 := by decide +kernel
theorem dw72_ok : QD dw72 := by decide +kernel
theorem dw73_ok : QD dw73 := by decide +kernel
theorem dw74_ok : QD dw74 := by decide +kernel
theorem dw75_ok : QD dw75 := by decide +kernel
theorem dw76_ok : QD dw76 := by decide +kernel
theorem dw77_ok : QD dw77 := by decide +kernel
theorem dw78_ok : QD dw78 := by decide +kernel
theorem dw79_ok : QD dw79 := by decide +kernel
end Go.Proofs.YtooelpaaidnhiaaGreatDoor

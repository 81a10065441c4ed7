/- Rows that turn memory: runs by the evaluator, in the kernel, in every order. No conditions. -/
import Derived.Test.YtooelpaaidnhiaaGreatDoorTnH
namespace Go.Proofs.YtooelpaaidnhiaaGreatDoor
open Go.VM
theorem dw128_ok : QD dw128 := by decide +kernel
theorem dw129_ok : QD dw129 := by decide +kernel
theorem dw130_ok : QD dw130 := by decide +kernel
theorem dw131_ok : QD dw131 := by decide +kernel
theorem dw132_ok : QD dw132 := by decide +kernel
theorem dw133_ok : QD dw133 := by decide +kernel
theorem dw134_ok : QD dw134 := by decide +kernel
theorem dw135_ok : QD dw135 := by decide +kernel
theorem dw136_ok : QD dw136 := by decide +kernel
theorem dw137_ok : QD dw137 := by decide +kernel
theorem dw138_ok : QD dw138 := by decide +kernel
theorem dw139_ok : QD dw139 := by decide +kernel
theorem dw140_ok : QD dw140 := by decide +kernel
theorem dw141_ok : QD dw141 := by decide +kernel
theorem dw142_ok : QD dw142 := by decide +kernel
theorem dw143_ok : QD dw143 := by decide +kernel
end Go.Proofs.YtooelpaaidnhiaaGreatDoor

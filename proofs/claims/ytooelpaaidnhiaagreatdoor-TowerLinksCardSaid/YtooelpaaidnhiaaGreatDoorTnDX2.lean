/- Rows that turn memory: runs by the evaluator, in the kernel, in every order. No conditions. -/
import Derived.Test.YtooelpaaidnhiaaGreatDoorTnH
namespace Go.Proofs.YtooelpaaidnhiaaGreatDoor
open Go.VM
theorem dw32_ok : QD dw32 := by decide +kernel
theorem dw33_ok : QD dw33 := by decide +kernel
theorem dw34_ok : QD dw34 := by decide +kernel
theorem dw35_ok : QD dw35 := by decide +kernel
theorem dw36_ok : QD dw36 := by decide +kernel
theorem dw37_ok : QD dw37 := by decide +kernel
theorem dw38_ok : QD dw38 := by decide +kernel
theorem dw39_ok : QD dw39 := by decide +kernel
theorem dw40_ok : QD dw40 := by decide +kernel
theorem dw41_ok : QD dw41 := by decide +kernel
theorem dw42_ok : QD dw42 := by decide +kernel
theorem dw43_ok : QD dw43 := by decide +kernel
theorem dw44_ok : QD dw44 := by decide +kernel
theorem dw45_ok : QD dw45 := by decide +kernel
theorem dw46_ok : QD dw46 := by decide +kernel
theorem dw47_ok : QD dw47 := by decide +kernel
end Go.Proofs.YtooelpaaidnhiaaGreatDoor

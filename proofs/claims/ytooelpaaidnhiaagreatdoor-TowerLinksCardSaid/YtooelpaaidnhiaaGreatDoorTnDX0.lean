/- Rows that turn memory: runs by the evaluator, in the kernel, in every order. No conditions. -/
import Derived.Test.YtooelpaaidnhiaaGreatDoorTnH
namespace Go.Proofs.YtooelpaaidnhiaaGreatDoor
open Go.VM
theorem dw0_ok : QD dw0 := by decide +kernel
theorem dw1_ok : QD dw1 := by decide +kernel
theorem dw2_ok : QD dw2 := by decide +kernel
theorem dw3_ok : QD dw3 := by decide +kernel
theorem dw4_ok : QD dw4 := by decide +kernel
theorem dw5_ok : QD dw5 := by decide +kernel
theorem dw6_ok : QD dw6 := by decide +kernel
theorem dw7_ok : QD dw7 := by decide +kernel
theorem dw8_ok : QD dw8 := by decide +kernel
theorem dw9_ok : QD dw9 := by decide +kernel
theorem dw10_ok : QD dw10 := by decide +kernel
theorem dw11_ok : QD dw11 := by decide +kernel
theorem dw12_ok : QD dw12 := by decide +kernel
theorem dw13_ok : QD dw13 := by decide +kernel
theorem dw14_ok : QD dw14 := by decide +kernel
theorem dw15_ok : QD dw15 := by decide +kernel
end Go.Proofs.YtooelpaaidnhiaaGreatDoor

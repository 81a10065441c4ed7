/- Rows that turn memory: runs by the evaluator, in the kernel, in every order. No conditions. -/
import Derived.Test.YtooelpaaidnhiaaGreatDoorTwH
namespace Go.Proofs.YtooelpaaidnhiaaGreatDoor
open Go.VM
set_option maxRecDepth 1000000 in
theorem dw8_ok : QD dw8 := by decide +kernel
set_option maxRecDepth 1000000 in
theorem dw9_ok : QD dw9 := by decide +kernel
set_option maxRecDepth 1000000 in
theorem dw10_ok : QD dw10 := by decide +kernel
set_option maxRecDepth 1000000 in
theorem dw11_ok : QD dw11 := by decide +kernel
set_option maxRecDepth 1000000 in
theorem dw12_ok : QD dw12 := by decide +kernel
set_option maxRecDepth 1000000 in
theorem dw13_ok : QD dw13 := by decide +kernel
set_option maxRecDepth 1000000 in
theorem dw14_ok : QD dw14 := by decide +kernel
set_option maxRecDepth 1000000 in
theorem dw15_ok : QD dw15 := by decide +kernel
end Go.Proofs.YtooelpaaidnhiaaGreatDoor

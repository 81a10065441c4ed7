/- Rows that turn memory: runs by the evaluator, in the kernel, in every order. No conditions. -/
import Derived.Test.YtooelpaaidnhiaaGreatDoorThH
namespace Go.Proofs.YtooelpaaidnhiaaGreatDoor
open Go.VM
set_option maxRecDepth 1000000 in
theorem dw33_ok : QD dw33 := by decide +kernel
set_option maxRecDepth 1000000 in
theorem dw34_ok : QD dw34 := by decide +kernel
set_option maxRecDepth 1000000 in
theorem dw35_ok : QD dw35 := by decide +kernel
set_option maxRecDepth 1000000 in
theorem dw36_ok : QD dw36 := by decide +kernel
set_option maxRecDepth 1000000 in
theorem dw37_ok : QD dw37 := by decide +kernel
set_option maxRecDepth 1000000 in
theorem dw38_ok : QD dw38 := by decide +kernel
set_option maxRecDepth 1000000 in
theorem dw39_ok : QD dw39 := by decide +kernel
set_option maxRecDepth 1000000 in
theorem dw40_ok : QD dw40 := by decide +kernel
set_option maxRecDepth 1000000 in
theorem dw41_ok : QD dw41 := by decide +kernel
set_option maxRecDepth 1000000 in
theorem dw42_ok : QD dw42 := by decide +kernel
set_option maxRecDepth 1000000 in
theorem dw43_ok : QD dw43 := by decide +kernel
end Go.Proofs.YtooelpaaidnhiaaGreatDoor

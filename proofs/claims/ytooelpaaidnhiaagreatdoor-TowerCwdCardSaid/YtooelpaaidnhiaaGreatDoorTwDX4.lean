/- Rows that turn memory: runs by the evaluator, in the kernel, in every order. No conditions. -/
import Derived.Test.YtooelpaaidnhiaaGreatDoorTwH
namespace Go.Proofs.YtooelpaaidnhiaaGreatDoor
open Go.VM
set_option maxRecDepth 1000000 in
theorem dw32_ok : QD dw32 := by decide +kernel
set_option maxRecDepth 1000000 in
theorem dw33_ok : QD dw33 := by decide +kernel
set_option maxRecDepth 1000000 in
theorem dw34_ok : QD dw34 := by decide +kernel
set_option maxRecDepth 1000000 in
theorem dw35_ok : QD dw35 := by decide +kernel
set_option maxRecDepth 1000000 in
theorem dw36_ok : QD dw36 := by decide +kernel
set_option maxRecDepth 1000000 in
theorem dw37_ok : QD dw37 := by decide +kernel
set_option maxRecDepth 1000000 in
theorem dw38_ok : QD dw38 := by decide +kernel
set_option maxRecDepth 1000000 in
theorem dw39_ok : QD dw39 := by decide +kernel
end Go.Proofs.YtooelpaaidnhiaaGreatDoor

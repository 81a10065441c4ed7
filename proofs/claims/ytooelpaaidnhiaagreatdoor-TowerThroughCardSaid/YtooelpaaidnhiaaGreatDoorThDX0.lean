/- Rows that turn memory: runs by the evaluator, in the kernel, in every order. No conditions. -/
import Derived.Test.YtooelpaaidnhiaaGreatDoorThH
namespace Go.Proofs.YtooelpaaidnhiaaGreatDoor
open Go.VM
set_option maxRecDepth 1000000 in
theorem dw0_ok : QD dw0 := by decide +kernel
set_option maxRecDepth 1000000 in
theorem dw1_ok : QD dw1 := by decide +kernel
set_option maxRecDepth 1000000 in
theorem dw2_ok : QD dw2 := by decide +kernel
set_option maxRecDepth 1000000 in
theorem dw3_ok : QD dw3 := by decide +kernel
set_option maxRecDepth 1000000 in
theorem dw4_ok : QD dw4 := by decide +kernel
set_option maxRecDepth 1000000 in
theorem dw5_ok : QD dw5 := by decide +kernel
set_option maxRecDepth 1000000 in
theorem dw6_ok : QD dw6 := by decide +kernel
set_option maxRecDepth 1000000 in
theorem dw7_ok : QD dw7 := by decide +kernel
set_option maxRecDepth 1000000 in
theorem dw8_ok : QD dw8 := by decide +kernel
set_option maxRecDepth 1000000 in
theorem dw9_ok : QD dw9 := by decide +kernel
set_option maxRecDepth 1000000 in
theorem dw10_ok : QD dw10 := by decide +kernel
end Go.Proofs.YtooelpaaidnhiaaGreatDoor

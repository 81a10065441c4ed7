/- Rows that turn memory: runs by the evaluator, in the kernel, in every order. No conditions. -/
import Derived.Test.YtooelpaaidnhiaaGreatDoorThH
namespace Go.Proofs.YtooelpaaidnhiaaGreatDoor
open Go.VM
set_option maxRecDepth 1000000 in
theorem dw110_ok : QD dw110 := by decide +kernel
set_option maxRecDepth 1000000 in
theorem dw111_ok : QD dw111 := by decide +kernel
set_option maxRecDepth 1000000 in
theorem dw112_ok : QD dw112 := by decide +kernel
set_option maxRecDepth 1000000 in
theorem dw113_ok : QD dw113 := by decide +kernel
set_option maxRecDepth 1000000 in
theorem dw114_ok : QD dw114 := by decide +kernel
set_option maxRecDepth 1000000 in
theorem dw115_ok : QD dw115 := by decide +kernel
set_option maxRecDepth 1000000 in
theorem dw116_ok : QD dw116 := by decide +kernel
set_option maxRecDepth 1000000 in
theorem dw117_ok : QD dw117 := by decide +kernel
set_option maxRecDepth 1000000 in
theorem dw118_ok : QD dw118 := by decide +kernel
set_option maxRecDepth 1000000 in
theorem dw119_ok : QD dw119 := by decide +kernel
set_option maxRecDepth 1000000 in
theorem dw120_ok : QD dw120 := by decide +kernel
end Go.Proofs.YtooelpaaidnhiaaGreatDoor

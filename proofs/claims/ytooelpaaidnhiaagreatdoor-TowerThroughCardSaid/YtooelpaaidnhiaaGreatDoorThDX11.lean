/- Rows that turn memory: runs by the evaluator, in the kernel, in every order. No conditions. -/
import Derived.Test.YtooelpaaidnhiaaGreatDoorThH
namespace Go.Proofs.YtooelpaaidnhiaaGreatDoor
open Go.VM
set_option maxRecDepth 1000000 in
theorem dw121_ok : QD dw121 := by decide +kernel
set_option maxRecDepth 1000000 in
theorem dw122_ok : QD dw122 := by decide +kernel
set_option maxRecDepth 1000000 in
theorem dw123_ok : QD dw123 := by decide +kernel
set_option maxRecDepth 1000000 in
theorem dw124_ok : QD dw124 := by decide +kernel
set_option maxRecDepth 1000000 in
theorem dw125_ok : QD dw125 := by decide +kernel
set_option maxRecDepth 1000000 in
theorem dw126_ok : QD dw126 := by decide +kernel
set_option maxRecDepth 1000000 in
theorem dw127_ok : QD dw127 := by decide +kernel
set_option maxRecDepth 1000000 in
theorem dw128_ok : QD dw128 := by decide +kernel
set_option maxRecDepth 1000000 in
theorem dw129_ok : QD dw129 := by decide +kernel
set_option maxRecDepth 1000000 in
theorem dw130_ok : QD dw130 := by decide +kernel
set_option maxRecDepth 1000000 in
theorem dw131_ok : QD dw131 := by decide +kernel
end Go.Proofs.YtooelpaaidnhiaaGreatDoor

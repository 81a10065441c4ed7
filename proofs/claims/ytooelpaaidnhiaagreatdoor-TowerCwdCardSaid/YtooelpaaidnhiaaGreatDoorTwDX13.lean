/- Rows that turn memory: runs by the evaluator, in the kernel, in every order. No conditions. -/
import Derived.Test.YtooelpaaidnhiaaGreatDoorTwH
namespace Go.Proofs.YtooelpaaidnhiaaGreatDoor
open Go.VM
set_option maxRecDepth 1000000 in
theorem dw104_ok : QD dw104 := by decide +kernel
set_option maxRecDepth 1000000 in
theorem dw105_ok : QD dw105 := by decide +kernel
set_option maxRecDepth 1000000 in
theorem dw106_ok : QD dw106 := by decide +kernel
set_option maxRecDepth 1000000 in
theorem dw107_ok : QD dw107 := by decide +kernel
set_option maxRecDepth 1000000 in
theorem dw108_ok : QD dw108 := by decide +kernel
set_option maxRecDepth 1000000 in
theorem dw109_ok : QD dw109 := by decide +kernel
set_option maxRecDepth 1000000 in
theorem dw110_ok : QD dw110 := by decide +kernel
end Go.Proofs.YtooelpaaidnhiaaGreatDoor

/- Rows that turn memory: runs by the evaluator, in the kernel, in every order. No conditions. -/
import Derived.Test.YtooelpaaidnhiaaGreatDoorThH
namespace Go.Proofs.YtooelpaaidnhiaaGreatDoor
open Go.VM
set_option maxRecDepth 1000000 in
theorem dw99_ok : QD dw99 := by decide +kernel
set_option maxRecDepth 1000000 in
theorem dw100_ok : QD dw100 := by decide +kernel
set_option maxRecDepth 1000000 in
theorem dw101_ok : QD dw101 := by decide +kernel
set_option maxRecDepth 1000000 in
theorem dw102_ok : QD dw102 := by decide +kernel
set_option maxRecDepth 1000000 in
theorem dw103_ok : QD dw103 := by decide +kernel
set_option maxRecDepth 1000000 in
theorem dw104_ok : QD dw104 := by decide +kernel
set_option maxRecDepth 1000000 in
theorem dw105_ok : QD dw105 := by decide +kernel
set_option maxRecDepth 1000000 in
theorem dw106_ok : QD dw106 := by decide +kernel
set_option maxRecDepth 1000000 in
theorem dw107_ok : QD dw107 := by decide +kernel
set_option maxRecDepth 1000000 in
theorem dw108_ok : QD dw108 := by decide +kernel
set_option maxRecDepth 1000000 in
theorem dw109_ok : QD dw109 := by decide +kernel
end Go.Proofs.YtooelpaaidnhiaaGreatDoor

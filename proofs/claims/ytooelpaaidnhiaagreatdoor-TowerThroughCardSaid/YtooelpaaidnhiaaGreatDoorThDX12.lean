/- Rows that turn memory: runs by the evaluator, in the kernel, in every order. No conditions. -/
import Derived.Test.YtooelpaaidnhiaaGreatDoorThH
namespace Go.Proofs.YtooelpaaidnhiaaGreatDoor
open Go.VM
set_option maxRecDepth 1000000 in
theorem dw132_ok : QD dw132 := by decide +kernel
set_option maxRecDepth 1000000 in
theorem dw133_ok : QD dw133 := by decide +kernel
set_option maxRecDepth 1000000 in
theorem dw134_ok : QD dw134 := by decide +kernel
set_option maxRecDepth 1000000 in
theorem dw135_ok : QD dw135 := by decide +kernel
set_option maxRecDepth 1000000 in
theorem dw136_ok : QD dw136 := by decide +kernel
set_option maxRecDepth 1000000 in
theorem dw137_ok : QD dw137 := by decide +kernel
set_option maxRecDepth 1000000 in
theorem dw138_ok : QD dw138 := by decide +kernel
set_option maxRecDepth 1000000 in
theorem dw139_ok : QD dw139 := by decide +kernel
set_option maxRecDepth 1000000 in
theorem dw140_ok : QD dw140 := by decide +kernel
set_option maxRecDepth 1000000 in
theorem dw141_ok : QD dw141 := by decide +kernel
set_option maxRecDepth 1000000 in
theorem dw142_ok : QD dw142 := by decide +kernel
end Go.Proofs.YtooelpaaidnhiaaGreatDoor

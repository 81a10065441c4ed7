/- Rows that turn memory: runs by the evaluator, in the kernel, in every order. No conditions. -/
import Derived.Test.YtooelpaaidnhiaaGreatDoorThH
namespace Go.Proofs.YtooelpaaidnhiaaGreatDoor
open Go.VM
set_option maxRecDepth 1000000 in
theorem dw154_ok : QD dw154 := by decide +kernel
set_option maxRecDepth 1000000 in
theorem dw155_ok : QD dw155 := by decide +kernel
set_option maxRecDepth 1000000 in
theorem dw156_ok : QD dw156 := by decide +kernel
set_option maxRecDepth 1000000 in
theorem dw157_ok : QD dw157 := by decide +kernel
set_option maxRecDepth 1000000 in
theorem dw158_ok : QD dw158 := by decide +kernel
set_option maxRecDepth 1000000 in
theorem dw159_ok : QD dw159 := by decide +kernel
set_option maxRecDepth 1000000 in
theorem dw160_ok : QD dw160 := by decide +kernel
set_option maxRecDepth 1000000 in
theorem dw161_ok : QD dw161 := by decide +kernel
set_option maxRecDepth 1000000 in
theorem dw162_ok : QD dw162 := by decide +kernel
set_option maxRecDepth 1000000 in
theorem dw163_ok : QD dw163 := by decide +kernel
set_option maxRecDepth 1000000 in
theorem dw164_ok : QD dw164 := by decide +kernel
end Go.Proofs.YtooelpaaidnhiaaGreatDoor

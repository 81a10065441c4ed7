/- Rows that turn memory: runs by the evaluator, in the kernel, in every order. No conditions. -/
import Derived.Test.YtooelpaaidnhiaaGreatDoorThH
namespace Go.Proofs.YtooelpaaidnhiaaGreatDoor
open Go.VM
set_option maxRecDepth 1000000 in
theorem dw165_ok : QD dw165 := by decide +kernel
set_option maxRecDepth 1000000 in
theorem dw166_ok : QD dw166 := by decide +kernel
set_option maxRecDepth 1000000 in
theorem dw167_ok : QD dw167 := by decide +kernel
set_option maxRecDepth 1000000 in
theorem dw168_ok : QD dw168 := by decide +kernel
set_option maxRecDepth 1000000 in
theorem dw169_ok : QD dw169 := by decide +kernel
set_option maxRecDepth 1000000 in
theorem dw170_ok : QD dw170 := by decide +kernel
set_option maxRecDepth 1000000 in
theorem dw171_ok : QD dw171 := by decide +kernel
set_option maxRecDepth 1000000 in
theorem dw172_ok : QD dw172 := by decide +kernel
end Go.Proofs.YtooelpaaidnhiaaGreatDoor

/- Rows that turn memory: runs by the evaluator, in the kernel, in every order. No conditions. -/
import Derived.Test.YtooelpaaidnhiaaGreatDoorThH
namespace Go.Proofs.YtooelpaaidnhiaaGreatDoor
open Go.VM
set_option maxRecDepth 1000000 in
theorem dw143_ok : QD dw143 := by decide +kernel
set_option maxRecDepth 1000000 in
theorem dw144_ok : QD dw144 := by decide +kernel
set_option maxRecDepth 1000000 in
theorem dw145_ok : QD dw145 := by decide +kernel
set_option maxRecDepth 1000000 in
theorem dw146_ok : QD dw146 := by decide +kernel
set_option maxRecDepth 1000000 in
theorem dw147_ok : QD dw147 := by decide +kernel
set_option maxRecDepth 1000000 in
theorem dw148_ok : QD dw148 := by decide +kernel
set_option maxRecDepth 1000000 in
theorem dw149_ok : QD dw149 := by decide +kernel
set_option maxRecDepth 1000000 in
theorem dw150_ok : QD dw150 := by decide +kernel
set_option maxRecDepth 1000000 in
theorem dw151_ok : QD dw151 := by decide +kernel
set_option maxRecDepth 1000000 in
theorem dw152_ok : QD dw152 := by decide +kernel
set_option maxRecDepth 1000000 in
theorem dw153_ok : QD dw153 := by decide +kernel
end Go.Proofs.YtooelpaaidnhiaaGreatDoor

/- Rows that turn memory: runs by the evaluator, in the kernel, in every order. No conditions. -/
import Derived.Test.YtooelpaaidnhiaaGreatDoorThH
namespace Go.Proofs.YtooelpaaidnhiaaGreatDoor
open Go.VM
set_option maxRecDepth 1000000 in
theorem dw11_ok : QD dw11 := by decide +kernel
set_option maxRecDepth 1000000 in
theorem dw12_ok : QD dw12 := by decide +kernel
set_option maxRecDepth 1000000 in
theorem dw13_ok : QD dw13 := by decide +kernel
set_option maxRecDepth 1000000 in
theorem dw14_ok : QD dw14 := by decide +kernel
set_option maxRecDepth 1000000 in
theorem dw15_ok : QD dw15 := by decide +kernel
set_option maxRecDepth 1000000 in
theorem dw16_ok : QD dw16 := by decide +kernel
set_option maxRecDepth 1000000 in
theorem dw17_ok : QD dw17 := by decide +kernel
set_option maxRecDepth 1000000 in
theorem dw18_ok : QD dw18 := by decide +kernel
set_option maxRecDepth 1000000 in
theorem dw19_ok : QD dw19 := by decide +kernel
set_option maxRecDepth 1000000 in
theorem dw20_ok : QD dw20 := by decide +kernel
set_option maxRecDepth 1000000 in
theorem dw21_ok : QD dw21 := by decide +kernel
end Go.Proofs.YtooelpaaidnhiaaGreatDoor

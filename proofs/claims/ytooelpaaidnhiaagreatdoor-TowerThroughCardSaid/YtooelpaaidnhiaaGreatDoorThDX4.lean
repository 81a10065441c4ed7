/- Rows that turn memory: runs by the evaluator, in the kernel, in every order. No conditions. -/
import Derived.Test.YtooelpaaidnhiaaGreatDoorThH
namespace Go.Proofs.YtooelpaaidnhiaaGreatDoor
open Go.VM
set_option maxRecDepth 1000000 in
theorem dw44_ok : QD dw44 := by decide +kernel
set_option maxRecDepth 1000000 in
theorem dw45_ok : QD dw45 := by decide +kernel
set_option maxRecDepth 1000000 in
theorem dw46_ok : QD dw46 := by decide +kernel
set_option maxRecDepth 1000000 in
theorem dw47_ok : QD dw47 := by decide +kernel
set_option maxRecDepth 1000000 in
theorem dw48_ok : QD dw48 := by decide +kernel
set_option maxRecDepth 1000000 in
theorem dw49_ok : QD dw49 := by decide +kernel
set_option maxRecDepth 1000000 in
theorem dw50_ok : QD dw50 := by decide +kernel
set_option maxRecDepth 1000000 in
theorem dw51_ok : QD dw51 := by decide +kernel
set_option maxRecDepth 1000000 in
theorem dw52_ok : QD dw52 := by decide +kernel
set_option maxRecDepth 1000000 in
theorem dw53_ok : QD dw53 := by decide +kernel
set_option maxRecDepth 1000000 in
theorem dw54_ok : QD dw54 := by decide +kernel
end Go.Proofs.YtooelpaaidnhiaaGreatDoor

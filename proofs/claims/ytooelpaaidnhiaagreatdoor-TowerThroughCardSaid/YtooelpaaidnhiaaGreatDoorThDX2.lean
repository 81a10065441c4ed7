/- Rows that turn memory: runs by the evaluator, in the kernel, in every order. No conditions. -/
import Derived.Test.YtooelpaaidnhiaaGreatDoorThH
namespace Go.Proofs.YtooelpaaidnhiaaGreatDoor
open Go.VM
set_option maxRecDepth 1000000 in
theorem dw22_ok : QD dw22 := by decide +kernel
set_option maxRecDepth 1000000 in
theorem dw23_ok : QD dw23 := by decide +kernel
set_option maxRecDepth 1000000 in
theorem dw24_ok : QD dw24 := by decide +kernel
set_option maxRecDepth 1000000 in
theorem dw25_ok : QD dw25 := by decide +kernel
set_option maxRecDepth 1000000 in
theorem dw26_ok : QD dw26 := by decide +kernel
set_option maxRecDepth 1000000 in
theorem dw27_ok : QD dw27 := by decide +kernel
set_option maxRecDepth 1000000 in
theorem dw28_ok : QD dw28 := by decide +kernel
set_option maxRecDepth 1000000 in
theorem dw29_ok : QD dw29 := by decide +kernel
set_option maxRecDepth 1000000 in
theorem dw30_ok : QD dw30 := by decide +kernel
set_option maxRecDepth 1000000 in
theorem dw31_ok : QD dw31 := by decide +kernel
set_option maxRecDepth 1000000 in
theorem dw32_ok : QD dw32 := by decide +kernel
end Go.Proofs.YtooelpaaidnhiaaGreatDoor

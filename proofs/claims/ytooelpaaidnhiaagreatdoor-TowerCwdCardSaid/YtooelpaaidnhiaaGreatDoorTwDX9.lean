/- Rows that turn memory: runs by the evaluator, in the kernel, in every order. No conditions. -/
import Derived.Test.YtooelpaaidnhiaaGreatDoorTwH
namespace Go.Proofs.YtooelpaaidnhiaaGreatDoor
open Go.VM
set_option maxRecDepth 1000000 in
theorem dw72_ok : QD dw72 := by decide +kernel
set_option maxRecDepth 1000000 in
theorem dw73_ok : QD dw73 := by decide +kernel
set_option maxRecDepth 1000000 in
theorem dw74_ok : QD dw74 := by decide +kernel
set_option maxRecDepth 1000000 in
theorem dw75_ok : QD dw75 := by decide +kernel
set_option maxRecDepth 1000000 in
theorem dw76_ok : QD dw76 := by decide +kernel
set_option maxRecDepth 1000000 in
theorem dw77_ok : QD dw77 := by decide +kernel
set_option maxRecDepth 1000000 in
theorem dw78_ok : QD dw78 := by decide +kernel
set_option maxRecDepth 1000000 in
theorem dw79_ok : QD dw79 := by decide +kernel
end Go.Proofs.YtooelpaaidnhiaaGreatDoor

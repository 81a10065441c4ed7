/- Rows that turn memory: runs by the evaluator, in the kernel, in every order. No conditions. -/
import Derived.Test.YtooelpaaidnhiaaGreatDoorThH
namespace Go.Proofs.YtooelpaaidnhiaaGreatDoor
open Go.VM
set_option maxRecDepth 1000000 in
theorem dw66_ok : QD dw66 := by decide +kernel
set_option maxRecDepth 1000000 in
theorem dw67_ok : QD dw67 := by decide +kernel
set_option maxRecDepth 1000000 in
theorem dw68_ok : QD dw68 := by decide +kernel
set_option maxRecDepth 1000000 in
theorem dw69_ok : QD dw69 := by decide +kernel
set_option maxRecDepth 1000000 in
theorem dw70_ok : QD dw70 := by decide +kernel
set_option maxRecDepth 1000000 in
theorem dw71_ok : QD dw71 := by decide +kernel
set_option maxRecDepth 1000000 in
theorem dw72_ok : QD dw72 := by decide +kernel
set_option maxRecDepth 1000000 in
theorem dw73_ok : QD dw73 := by decide +kernel
set_option maxRecDepth 1000000 in
theorem dw74_ok : QD dw74 := by decide +kernel
set_option maxRecDepth 1000000 in
theorem dw75_ok : QD dw75 := by decide +kernel
set_option maxRecDepth 1000000 in
theorem dw76_ok : QD dw76 := by decide +kernel
end Go.Proofs.YtooelpaaidnhiaaGreatDoor

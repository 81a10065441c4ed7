/- Rows that turn memory: runs by the evaluator, in the kernel, in every order. No conditions. -/
import Derived.Test.YtbblahphgmkgnaaGreatDoorTyH
namespace Go.Proofs.YtbblahphgmkgnaaGreatDoor
open Go.VM
set_option maxRecDepth 1000000 in
theorem dw64_ok : @rowsX hookC Tryz.prog laidL 12 keyTw 500000 dw64 = true := by decide +kernel
set_option maxRecDepth 1000000 in
theorem dw65_ok : @rowsX hookC Tryz.prog laidL 12 keyTw 500000 dw65 = true := by decide +kernel
set_option maxRecDepth 1000000 in
theorem dw66_ok : @rowsX hookC Tryz.prog laidL 12 keyTw 500000 dw66 = true := by decide +kernel
set_option maxRecDepth 1000000 in
theorem dw67_ok : @rowsX hookC Tryz.prog laidL 12 keyTw 500000 dw67 = true := by decide +kernel
set_option maxRecDepth 1000000 in
theorem dw68_ok : @rowsX hookC Tryz.prog laidL 12 keyTw 500000 dw68 = true := by decide +kernel
set_option maxRecDepth 1000000 in
theorem dw69_ok : @rowsX hookC Tryz.prog laidL 12 keyTw 500000 dw69 = true := by decide +kernel
set_option maxRecDepth 1000000 in
theorem dw70_ok : @rowsX hookC Tryz.prog laidL 12 keyTw 500000 dw70 = true := by decide +kernel
set_option maxRecDepth 1000000 in
theorem dw71_ok : @rowsX hookC Tryz.prog laidL 12 keyTw 500000 dw71 = true := by decide +kernel
end Go.Proofs.YtbblahphgmkgnaaGreatDoor

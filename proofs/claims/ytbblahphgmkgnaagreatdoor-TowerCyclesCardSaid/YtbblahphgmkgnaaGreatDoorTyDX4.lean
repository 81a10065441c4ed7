/- Rows that turn memory: runs by the evaluator, in the kernel, in every order. No conditions. -/
import Derived.Test.YtbblahphgmkgnaaGreatDoorTyH
namespace Go.Proofs.YtbblahphgmkgnaaGreatDoor
open Go.VM
set_option maxRecDepth 1000000 in
theorem dw32_ok : @rowsX hookC Tryz.prog laidL 12 keyTw 500000 dw32 = true := by decide +kernel
set_option maxRecDepth 1000000 in
theorem dw33_ok : @rowsX hookC Tryz.prog laidL 12 keyTw 500000 dw33 = true := by decide +kernel
set_option maxRecDepth 1000000 in
theorem dw34_ok : @rowsX hookC Tryz.prog laidL 12 keyTw 500000 dw34 = true := by decide +kernel
set_option maxRecDepth 1000000 in
theorem dw35_ok : @rowsX hookC Tryz.prog laidL 12 keyTw 500000 dw35 = true := by decide +kernel
set_option maxRecDepth 1000000 in
theorem dw36_ok : @rowsX hookC Tryz.prog laidL 12 keyTw 500000 dw36 = true := by decide +kernel
set_option maxRecDepth 1000000 in
theorem dw37_ok : @rowsX hookC Tryz.prog laidL 12 keyTw 500000 dw37 = true := by decide +kernel
set_option maxRecDepth 1000000 in
theorem dw38_ok : @rowsX hookC Tryz.prog laidL 12 keyTw 500000 dw38 = true := by decide +kernel
set_option maxRecDepth 1000000 in
theorem dw39_ok : @rowsX hookC Tryz.prog laidL 12 keyTw 500000 dw39 = true := by decide +kernel
end Go.Proofs.YtbblahphgmkgnaaGreatDoor

/- Rows that turn memory: runs by the evaluator, in the kernel, in every order. No conditions. -/
import Derived.Test.YtbblahphgmkgnaaGreatDoorTyH
namespace Go.Proofs.YtbblahphgmkgnaaGreatDoor
open Go.VM
set_option maxRecDepth 1000000 in
theorem dw8_ok : @rowsX hookC Tryz.prog laidL 12 keyTw 500000 dw8 = true := by decide +kernel
set_option maxRecDepth 1000000 in
theorem dw9_ok : @rowsX hookC Tryz.prog laidL 12 keyTw 500000 dw9 = true := by decide +kernel
set_option maxRecDepth 1000000 in
theorem dw10_ok : @rowsX hookC Tryz.prog laidL 12 keyTw 500000 dw10 = true := by decide +kernel
set_option maxRecDepth 1000000 in
theorem dw11_ok : @rowsX hookC Tryz.prog laidL 12 keyTw 500000 dw11 = true := by decide +kernel
set_option maxRecDepth 1000000 in
theorem dw12_ok : @rowsX hookC Tryz.prog laidL 12 keyTw 500000 dw12 = true := by decide +kernel
set_option maxRecDepth 1000000 in
theorem dw13_ok : @rowsX hookC Tryz.prog laidL 12 keyTw 500000 dw13 = true := by decide +kernel
set_option maxRecDepth 1000000 in
theorem dw14_ok : @rowsX hookC Tryz.prog laidL 12 keyTw 500000 dw14 = true := by decide +kernel
set_option maxRecDepth 1000000 in
theorem dw15_ok : @rowsX hookC Tryz.prog laidL 12 keyTw 500000 dw15 = true := by decide +kernel
end Go.Proofs.YtbblahphgmkgnaaGreatDoor

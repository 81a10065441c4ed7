/- Rows that turn memory: runs by the evaluator, in the kernel, in every order. No conditions. -/
import Derived.Test.YtbblahphgmkgnaaGreatDoorTyH
namespace Go.Proofs.YtbblahphgmkgnaaGreatDoor
open Go.VM
set_option maxRecDepth 1000000 in
theorem dw40_ok : @rowsX hookC Tryz.prog laidL 12 keyTw 500000 dw40 = true := by decide +kernel
set_option maxRecDepth 1000000 in
theorem dw41_ok : @rowsX hookC Tryz.prog laidL 12 keyTw 500000 dw41 = true := by decide +kernel
set_option maxRecDepth 1000000 in
theorem dw42_ok : @rowsX hookC Tryz.prog laidL 12 keyTw 500000 dw42 = true := by decide +kernel
set_option maxRecDepth 1000000 in
theorem dw43_ok : @rowsX hookC Tryz.prog laidL 12 keyTw 500000 dw43 = true := by decide +kernel
set_option maxRecDepth 1000000 in
theorem dw44_ok : @rowsX hookC Tryz.prog laidL 12 keyTw 500000 dw44 = true := by decide +kernel
set_option maxRecDepth 1000000 in
theorem dw45_ok : @rowsX hookC Tryz.prog laidL 12 keyTw 500000 dw45 = true := by decide +kernel
set_option maxRecDepth 1000000 in
theorem dw46_ok : @rowsX hookC Tryz.prog laidL 12 keyTw 500000 dw46 = true := by decide +kernel
set_option maxRecDepth 1000000 in
theorem dw47_ok : @rowsX hookC Tryz.prog laidL 12 keyTw 500000 dw47 = true := by decide +kernel
end Go.Proofs.YtbblahphgmkgnaaGreatDoor

/- Rows that turn memory: runs by the evaluator, in the kernel, in every order. No conditions. -/
import Derived.Test.YtbblahphgmkgnaaGreatDoorTyH
namespace Go.Proofs.YtbblahphgmkgnaaGreatDoor
open Go.VM
set_option maxRecDepth 1000000 in
theorem dw0_ok : @rowsX hookC Tryz.prog laidL 12 keyTw 500000 dw0 = true := by decide +kernel
set_option maxRecDepth 1000000 in
theorem dw1_ok : @rowsX hookC Tryz.prog laidL 12 keyTw 500000 dw1 = true := by decide +kernel
set_option maxRecDepth 1000000 in
theorem dw2_ok : @rowsX hookC Tryz.prog laidL 12 keyTw 500000 dw2 = true := by decide +kernel
set_option maxRecDepth 1000000 in
theorem dw3_ok : @rowsX hookC Tryz.prog laidL 12 keyTw 500000 dw3 = true := by decide +kernel
set_option maxRecDepth 1000000 in
theorem dw4_ok : @rowsX hookC Tryz.prog laidL 12 keyTw 500000 dw4 = true := by decide +kernel
set_option maxRecDepth 1000000 in
theorem dw5_ok : @rowsX hookC Tryz.prog laidL 12 keyTw 500000 dw5 = true := by decide +kernel
set_option maxRecDepth 1000000 in
theorem dw6_ok : @rowsX hookC Tryz.prog laidL 12 keyTw 500000 dw6 = true := by decide +kernel
set_option maxRecDepth 1000000 in
theorem dw7_ok : @rowsX hookC Tryz.prog laidL 12 keyTw 500000 dw7 = true := by decide +kernel
end Go.Proofs.YtbblahphgmkgnaaGreatDoor

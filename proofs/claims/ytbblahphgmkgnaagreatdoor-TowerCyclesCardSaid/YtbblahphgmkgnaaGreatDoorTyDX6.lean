/- Rows that turn memory: runs by the evaluator, in the kernel, in every order. No conditions. -/
import Derived.Test.YtbblahphgmkgnaaGreatDoorTyH
namespace Go.Proofs.YtbblahphgmkgnaaGreatDoor
open Go.VM
set_option maxRecDepth 1000000 in
theorem dw48_ok : @rowsX hookC Tryz.prog laidL 12 keyTw 500000 dw48 = true := by decide +kernel
set_option maxRecDepth 1000000 in
theorem dw49_ok : @rowsX hookC Tryz.prog laidL 12 keyTw 500000 dw49 = true := by decide +kernel
set_option maxRecDepth 1000000 in
theorem dw50_ok : @rowsX hookC Tryz.prog laidL 12 keyTw 500000 dw50 = true := by decide +kernel
set_option maxRecDepth 1000000 in
theorem dw51_ok : @rowsX hookC Tryz.prog laidL 12 keyTw 500000 dw51 = true := by decide +kernel
set_option maxRecDepth 1000000 in
theorem dw52_ok : @rowsX hookC Tryz.prog laidL 12 keyTw 500000 dw52 = true := by decide +kernel
set_option maxRecDepth 1000000 in
theorem dw53_ok : @rowsX hookC Tryz.prog laidL 12 keyTw 500000 dw53 = true := by decide +kernel
set_option maxRecDepth 1000000 in
theorem dw54_ok : @rowsX hookC Tryz.prog laidL 12 keyTw 500000 dw54 = true := by decide +kernel
set_option maxRecDepth 1000000 in
theorem dw55_ok : @rowsX hookC Tryz.prog laidL 12 keyTw 500000 dw55 = true := by decide +kernel
end Go.Proofs.YtbblahphgmkgnaaGreatDoor

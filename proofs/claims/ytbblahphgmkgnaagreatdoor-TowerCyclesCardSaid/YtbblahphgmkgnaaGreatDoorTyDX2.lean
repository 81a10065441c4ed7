/- Rows that turn memory: runs by the evaluator, in the kernel, in every order. No conditions. -/
import Derived.Test.YtbblahphgmkgnaaGreatDoorTyH
namespace Go.Proofs.YtbblahphgmkgnaaGreatDoor
open Go.VM
set_option maxRecDepth 1000000 in
theorem dw16_ok : @rowsX hookC Tryz.prog laidL 12 keyTw 500000 dw16 = true := by decide +kernel
set_option maxRecDepth 1000000 in
theorem dw17_ok : @rowsX hookC Tryz.prog laidL 12 keyTw 500000 dw17 = true := by decide +kernel
set_option maxRecDepth 1000000 in
theorem dw18_ok : @rowsX hookC Tryz.prog laidL 12 keyTw 500000 dw18 = true := by decide +kernel
set_option maxRecDepth 1000000 in
theorem dw19_ok : @rowsX hookC Tryz.prog laidL 12 keyTw 500000 dw19 = true := by decide +kernel
set_option maxRecDepth 1000000 in
theorem dw20_ok : @rowsX hookC Tryz.prog laidL 12 keyTw 500000 dw20 = true := by decide +kernel
set_option maxRecDepth 1000000 in
theorem dw21_ok : @rowsX hookC Tryz.prog laidL 12 keyTw 500000 dw21 = true := by decide +kernel
set_option maxRecDepth 1000000 in
theorem dw22_ok : @rowsX hookC Tryz.prog laidL 12 keyTw 500000 dw22 = true := by decide +kernel
set_option maxRecDepth 1000000 in
theorem dw23_ok : @rowsX hookC Tryz.prog laidL 12 keyTw 500000 dw23 = true := by decide +kernel
end Go.Proofs.YtbblahphgmkgnaaGreatDoor

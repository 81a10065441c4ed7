/- Rows that turn memory: runs by the evaluator, in the kernel, in every order. No conditions. -/
import Derived.Test.YtbblahphgmkgnaaGreatDoorTyH
namespace Go.Proofs.YtbblahphgmkgnaaGreatDoor
open Go.VM
set_option maxRecDepth 1000000 in
theorem dw24_ok : @rowsX hookC Tryz.prog laidL 12 keyTw 500000 dw24 = true := by decide +kernel
set_option maxRecDepth 1000000 in
theorem dw25_ok : @rowsX hookC Tryz.prog laidL 12 keyTw 500000 dw25 = true := by decide +kernel
set_option maxRecDepth 1000000 in
theorem dw26_ok : @rowsX hookC Tryz.prog laidL 12 keyTw 500000 dw26 = true := by decide +kernel
set_option maxRecDepth 1000000 in
theorem dw27_ok : @rowsX hookC Tryz.prog laidL 12 keyTw 500000 dw27 = true := by decide +kernel
set_option maxRecDepth 1000000 in
theorem dw28_ok : @rowsX hookC Tryz.prog laidL 12 keyTw 500000 dw28 = true := by decide +kernel
set_option maxRecDepth 1000000 in
theorem dw29_ok : @rowsX hookC Tryz.prog laidL 12 keyTw 500000 dw29 = true := by decide +kernel
set_option maxRecDepth 1000000 in
theorem dw30_ok : @rowsX hookC Tryz.prog laidL 12 keyTw 500000 dw30 = true := by decide +kernel
set_option maxRecDepth 1000000 in
theorem dw31_ok : @rowsX hookC Tryz.prog laidL 12 keyTw 500000 dw31 = true := by decide +kernel
end Go.Proofs.YtbblahphgmkgnaaGreatDoor

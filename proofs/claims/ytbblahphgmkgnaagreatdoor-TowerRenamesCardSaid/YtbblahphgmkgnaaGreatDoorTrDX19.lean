/- Rows that turn memory: runs by the evaluator, in the kernel, in every order. No conditions. -/
import Derived.Test.YtbblahphgmkgnaaGreatDoorTrH
namespace Go.Proofs.YtbblahphgmkgnaaGreatDoor
open Go.VM
set_option maxRecDepth 1000000 in
theorem dw76_ok : @rowsX hookC Tryz.prog laidL 12 keyTw 500000 dw76 = true := by decide +kernel
set_option maxRecDepth 1000000 in
theorem dw77_ok : @rowsX hookC Tryz.prog laidL 12 keyTw 500000 dw77 = true := by decide +kernel
set_option maxRecDepth 1000000 in
theorem dw78_ok : @rowsX hookC Tryz.prog laidL 12 keyTw 500000 dw78 = true := by decide +kernel
set_option maxRecDepth 1000000 in
theorem dw79_ok : @rowsX hookC Tryz.prog laidL 12 keyTw 500000 dw79 = true := by decide +kernel
end Go.Proofs.YtbblahphgmkgnaaGreatDoor

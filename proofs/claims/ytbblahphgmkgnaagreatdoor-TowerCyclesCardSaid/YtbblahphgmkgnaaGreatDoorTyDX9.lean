/- Rows that turn memory: runs by the evaluator, in the kernel, in every order. No conditions. -/
import Derived.Test.YtbblahphgmkgnaaGreatDoorTyH
namespace Go.Proofs.YtbblahphgmkgnaaGreatDoor
open Go.VM
set_option maxRecDepth 1000000 in
theorem dw72_ok : @rowsX hookC Tryz.prog laidL 12 keyTw 500000 dw72 = true := by decide +kernel
set_option maxRecDepth 1000000 in
theorem dw73_ok : @rowsX hookC Tryz.prog laidL 12 keyTw 500000 dw73 = true := by decide +kernel
set_option maxRecDepth 1000000 in
theorem dw74_ok : @rowsX hookC Tryz.prog laidL 12 keyTw 500000 dw74 = true := by decide +kernel
end Go.Proofs.YtbblahphgmkgnaaGreatDoor

/- Rows that turn memory: runs by the evaluator, in the kernel, in every order. No conditions. -/
import Derived.Test.YtbblahphgmkgnaaGreatDoorTrH
namespace Go.Proofs.YtbblahphgmkgnaaGreatDoor
open Go.VM
set_option maxRecDepth 1000000 in
theorem dw80_ok : @rowsX hookC Tryz.prog laidL 12 keyTw 500000 dw80 = true := by decide +kernel
set_option maxRecDepth 1000000 in
theorem dw81_ok : @rowsX hookC Tryz.prog laidL 12 keyTw 500000 dw81 = true := by decide +kernel
set_option maxRecDepth 1000000 in
theorem dw82_ok : @rowsX hookC Tryz.prog laidL 12 keyTw 500000 dw82 = true := by decide +kernel
end Go.Proofs.YtbblahphgmkgnaaGreatDoor

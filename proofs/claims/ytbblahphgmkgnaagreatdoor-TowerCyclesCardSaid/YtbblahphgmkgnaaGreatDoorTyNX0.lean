/- Rows that turn memory: runs by the evaluator, in the kernel, in every order. No conditions. -/
import Derived.Test.YtbblahphgmkgnaaGreatDoorTyH
namespace Go.Proofs.YtbblahphgmkgnaaGreatDoor
open Go.VM
set_option maxRecDepth 1000000 in
theorem nw0_ok : @rowsX hookC Tryz.prog laidL 11 keyTw 500000 nw0 = true := by decide +kernel
set_option maxRecDepth 1000000 in
theorem nw1_ok : @rowsX hookC Tryz.prog laidL 11 keyTw 500000 nw1 = true := by decide +kernel
end Go.Proofs.YtbblahphgmkgnaaGreatDoor

/- Rows that turn memory: runs by the evaluator, in the kernel, in every order. No conditions. -/
import Derived.Test.YtbblahphgmkgnaaGreatDoorTyH
namespace Go.Proofs.YtbblahphgmkgnaaGreatDoor
open Go.VM
set_option maxRecDepth 1000000 in
theorem tw2_ok : @rowsX hookA Tryz.prog laidL 132 keyTw 500000 tw2 = true := by decide +kernel
end Go.Proofs.YtbblahphgmkgnaaGreatDoor

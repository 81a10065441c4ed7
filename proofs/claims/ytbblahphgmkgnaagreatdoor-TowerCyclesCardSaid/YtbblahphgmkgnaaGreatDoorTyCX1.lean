/- Rows that turn memory: runs by the evaluator, in the kernel, in every order. No conditions. -/
import Derived.Test.YtbblahphgmkgnaaGreatDoorTyH
namespace Go.Proofs.YtbblahphgmkgnaaGreatDoor
open Go.VM
set_option maxRecDepth 1000000 in
theorem cw8_ok : @rowsX hookB Tryz.prog laidL 32 keyTw 500000 cw8 = true := by decide +kernel
end Go.Proofs.YtbblahphgmkgnaaGreatDoor

/- Rows that turn memory: runs by the evaluator, in the kernel, in every order. No conditions. -/
import Derived.Test.YtbblahphgmkgnaaGreatDoorTyH
namespace Go.Proofs.YtbblahphgmkgnaaGreatDoor
open Go.VM
set_option maxRecDepth 1000000 in
theorem cw0_ok : @rowsX hookB Tryz.prog laidL 32 keyTw 500000 cw0 = true := by decide +kernel
set_option maxRecDepth 1000000 in
theorem cw1_ok : @rowsX hookB Tryz.prog laidL 32 keyTw 500000 cw1 = true := by decide +kernel
set_option maxRecDepth 1000000 in
theorem cw2_ok : @rowsX hookB Tryz.prog laidL 32 keyTw 500000 cw2 = true := by decide +kernel
set_option maxRecDepth 1000000 in
theorem cw3_ok : @rowsX hookB Tryz.prog laidL 32 keyTw 500000 cw3 = true := by decide +kernel
set_option maxRecDepth 1000000 in
theorem cw4_ok : @rowsX hookB Tryz.prog laidL 32 keyTw 500000 cw4 = true := by decide +kernel
set_option maxRecDepth 1000000 in
theorem cw5_ok : @rowsX hookB Tryz.prog laidL 32 keyTw 500000 cw5 = true := by decide +kernel
set_option maxRecDepth 1000000 in
theorem cw6_ok : @rowsX hookB Tryz.prog laidL 32 keyTw 500000 cw6 = true := by decide +kernel
set_option maxRecDepth 1000000 in
theorem cw7_ok : @rowsX hookB Tryz.prog laidL 32 keyTw 500000 cw7 = true := by decide +kernel
end Go.Proofs.YtbblahphgmkgnaaGreatDoor

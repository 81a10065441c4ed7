/- Rows that turn memory: runs by the evaluator, in the kernel, in every order. No conditions. -/
import Derived.Test.YtpijekjadohebaaGreatDoorToH
namespace Go.Proofs.YtpijekjadohebaaGreatDoor
open Go.VM
set_option maxRecDepth 1000000 in
theorem dw0_ok : @rowsX hookC Tryz.prog laidL 7 keyTw 500000 dw0 = true := by decide +kernel
set_option maxRecDepth 1000000 in
theorem dw1_ok : @rowsX hookC Tryz.prog laidL 7 keyTw 500000 dw1 = true := by decide +kernel
set_option maxRecDepth 1000000 in
theorem dw2_ok : @rowsX hookC Tryz.prog laidL 7 keyTw 500000 dw2 = true := by decide +kernel
set_option maxRecDepth 1000000 in
theorem dw3_ok : @rowsX hookC Tryz.prog laidL 7 keyTw 500000 dw3 = true := by decide +kernel
end Go.Proofs.YtpijekjadohebaaGreatDoor

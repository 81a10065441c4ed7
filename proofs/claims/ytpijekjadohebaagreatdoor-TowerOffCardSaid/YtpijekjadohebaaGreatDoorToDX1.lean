/- Rows that turn memory: runs by the evaluator, in the kernel, in every order. No conditions. -/
import Derived.Test.YtpijekjadohebaaGreatDoorToH
namespace Go.Proofs.YtpijekjadohebaaGreatDoor
open Go.VM
set_option maxRecDepth 1000000 in
theorem dw4_ok : @rowsX hookC Tryz.prog laidL 7 keyTw 500000 dw4 = true := by decide +kernel
set_option maxRecDepth 1000000 in
theorem dw5_ok : @rowsX hookC Tryz.prog laidL 7 keyTw 500000 dw5 = true := by decide +kernel
set_option maxRecDepth 1000000 in
theorem dw6_ok : @rowsX hookC Tryz.prog laidL 7 keyTw 500000 dw6 = true := by decide +kernel
end Go.Proofs.YtpijekjadohebaaGreatDoor

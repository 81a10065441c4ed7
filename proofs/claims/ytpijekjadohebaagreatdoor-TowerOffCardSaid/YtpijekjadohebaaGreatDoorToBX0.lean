/- Rows that turn memory: runs by the evaluator, in the kernel, in every order. No conditions. -/
import Derived.Test.YtpijekjadohebaaGreatDoorToH
namespace Go.Proofs.YtpijekjadohebaaGreatDoor
open Go.VM
set_option maxRecDepth 1000000 in
theorem bw0_ok : @rowsX hookC Tryz.prog laidL 17 keyTw 500000 bw0 = true := by decide +kernel
set_option maxRecDepth 1000000 in
theorem bw1_ok : @rowsX hookC Tryz.prog laidL 17 keyTw 500000 bw1 = true := by decide +kernel
set_option maxRecDepth 1000000 in
theorem bw2_ok : @rowsX hookC Tryz.prog laidL 17 keyTw 500000 bw2 = true := by decide +kernel
end Go.Proofs.YtpijekjadohebaaGreatDoor

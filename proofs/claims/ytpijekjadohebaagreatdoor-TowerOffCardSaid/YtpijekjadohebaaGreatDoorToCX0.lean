/- Rows that turn memory: runs by the evaluator, in the kernel, in every order. No conditions. -/
import Derived.Test.YtpijekjadohebaaGreatDoorToH
namespace Go.Proofs.YtpijekjadohebaaGreatDoor
open Go.VM
set_option maxRecDepth 1000000 in
theorem cw0_ok : @rowsX hookB Tryz.prog laidL 25 keyTw 500000 cw0 = true := by decide +kernel
end Go.Proofs.YtpijekjadohebaaGreatDoor

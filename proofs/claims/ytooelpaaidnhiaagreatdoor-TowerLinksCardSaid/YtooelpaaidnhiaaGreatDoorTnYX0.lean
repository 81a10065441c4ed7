/- Calls that only read: runs by the evaluator, in the kernel. No conditions. -/
import Derived.Test.YtooelpaaidnhiaaGreatDoorTnH
namespace Go.Proofs.YtooelpaaidnhiaaGreatDoor
open Go.VM
set_option maxRecDepth 1000000 in
theorem yr0_ok : @orowRun hookA Tryz.prog laidL 523 keyTw 500000 yr0 = true := by decide +kernel
set_option maxRecDepth 1000000 in
theorem yr1_ok : @orowRun hookA Tryz.prog laidL 523 keyTw 500000 yr1 = true := by decide +kernel
set_option maxRecDepth 1000000 in
theorem yr2_ok : @orowRun hookA Tryz.prog laidL 523 keyTw 500000 yr2 = true := by decide +kernel
set_option maxRecDepth 1000000 in
theorem yr3_ok : @orowRun hookA Tryz.prog laidL 523 keyTw 500000 yr3 = true := by decide +kernel
set_option maxRecDepth 1000000 in
theorem yr4_ok : @orowRun hookA Tryz.prog laidL 523 keyTw 500000 yr4 = true := by decide +kernel
set_option maxRecDepth 1000000 in
theorem yr5_ok : @orowRun hookA Tryz.prog laidL 523 keyTw 500000 yr5 = true := by decide +kernel
set_option maxRecDepth 1000000 in
theorem yr6_ok : @orowRun hookA Tryz.prog laidL 523 keyTw 500000 yr6 = true := by decide +kernel
end Go.Proofs.YtooelpaaidnhiaaGreatDoor

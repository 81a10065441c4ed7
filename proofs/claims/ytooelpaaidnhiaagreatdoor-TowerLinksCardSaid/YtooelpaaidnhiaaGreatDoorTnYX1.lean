/- Calls that only read: runs by the evaluator, in the kernel. No conditions. -/
import Derived.Test.YtooelpaaidnhiaaGreatDoorTnH
namespace Go.Proofs.YtooelpaaidnhiaaGreatDoor
open Go.VM
set_option maxRecDepth 1000000 in
theorem yr7_ok : @orowRun hookA Tryz.prog laidL 523 keyTw 500000 yr7 = true := by decide +kernel
set_option maxRecDepth 1000000 in
theorem yr8_ok : @orowRun hookA Tryz.prog laidL 523 keyTw 500000 yr8 = true := by decide +kernel
set_option maxRecDepth 1000000 in
theorem yr9_ok : @orowRun hookA Tryz.prog laidL 523 keyTw 500000 yr9 = true := by decide +kernel
set_option maxRecDepth 1000000 in
theorem yr10_ok : @orowRun hookA Tryz.prog laidL 523 keyTw 500000 yr10 = true := by decide +kernel
set_option maxRecDepth 1000000 in
theorem yr11_ok : @orowRun hookA Tryz.prog laidL 523 keyTw 500000 yr11 = true := by decide +kernel
set_option maxRecDepth 1000000 in
theorem yr12_ok : @orowRun hookA Tryz.prog laidL 523 keyTw 500000 yr12 = true := by decide +kernel
end Go.Proofs.YtooelpaaidnhiaaGreatDoor

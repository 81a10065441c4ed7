/- Rows that turn memory: runs by the evaluator, in the kernel, in every order. No conditions. -/
import Derived.Test.YtbblahphgmkgnaaGreatDoorTyH
namespace Go.Proofs.YtbblahphgmkgnaaGreatDoor
open Go.VM
set_option maxRecDepth 1000000 in
theorem dw56_ok : @rowsX hookC Tryz.prog laidL 12 keyTw 500000 dw56 = true := by decide +kernel
set_option maxRecDepth 1000000 in
theorem dw57_ok : @rowsX hookC Tryz.prog laidL 12 keyTw 500000 dw57 = true := by decide +kernel
set_option maxRecDepth 1000000 in
theorem dw58_ok : @rowsX hookC Tryz.prog laidL 12 keyTw 500000 dw58 = true := by decide +kernel
set_option maxRecDepth 1000000 in
theorem dw59_ok : @rowsX hookC Tryz.prog laidL 12 keyTw 500000 dw59 = true := by decide +kernel
set_option maxRecDepth 1000000 in
theorem dw60_ok : @rowsX hookC Tryz.prog laidL 12 keyTw 500000 dw60 = true := by decide +kernel
set_option maxRecDepth 1000000 in
theorem dw61_ok : @rowsX hookC Tryz.prog laidL 12 keyTw 500000 dw61 = true := by decide +kernel
set_option maxRecDepth 1000000 in
theorem dw62_ok : @rowsX hookC Tryz.prog laidL 12 keyTw 500000 dw62 = true := by decide +kernel
set_option maxRecDepth 1000000 in
theorem dw63_ok : @rowsX hookC Tryz.prog laidL 12 keyTw 500000 dw63 = true := by decide +kernel
end Go.Proofs.YtbblahphgmkgnaaGreatDoor

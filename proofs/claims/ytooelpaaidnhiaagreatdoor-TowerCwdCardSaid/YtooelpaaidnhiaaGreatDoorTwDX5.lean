/- Rows that turn memory: runs by the evaluator, in the kernel, in every order. No conditions. -/
import Derived.Test.YtooelpaaidnhiaaGreatDoorTwH
namespace Go.Proofs.YtooelpaaidnhiaaGreatDoor
open Go.VM
set_option maxRecDepth 1000000 in
theorem dw40_ok : QD dw40 := by decide +kernel
set_option maxRecDepth 1000000 in
theorem dw41_ok : QD dw41 := by decide +kernel
set_option maxRecDepth 1000000 in
theorem dw42_ok : QD dw42 := by decide +kernel
set_option maxRecDepth 1000000 in
theorem dw43_ok : QD dw43 := by decide +kernel
set_option maxRecDepth 1000000 in
theorem dw44_ok : QD dw44 := by decide +kernel
set_option maxRecDepth 1000000 in
theorem dw45_ok : QD dw45 := by decide +kernel
set_option maxRecDepth 1000000 in
theorem dw46_ok : QD dw46 := by decide +kernel
set_option maxRecDepth 1000000 in
theorem dw47_ok : QD dw47 := by decide +kernel
end Go.Proofs.YtooelpaaidnhiaaGreatDoor

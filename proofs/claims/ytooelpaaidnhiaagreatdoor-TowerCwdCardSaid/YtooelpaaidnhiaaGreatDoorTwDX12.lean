/- Rows that turn memory: runs by the evaluator, in the kernel, in every order. No conditions. -/
import Derived.Test.YtooelpaaidnhiaaGreatDoorTwH
namespace Go.Proofs.YtooelpaaidnhiaaGreatDoor
open Go.VM
set_option maxRecDepth 1000000 in
theorem dw96_ok : QD dw96 := by decide +kernel
set_option maxRecDepth 1000000 in
theorem dw97_ok : QD dw97 := by decide +kernel
set_option maxRecDepth 1000000 in
theorem dw98_ok : QD dw98 := by decide +kernel
set_option maxRecDepth 1000000 in
theorem dw99_ok : QD dw99 := by decide +kernel
set_option maxRecDepth 1000000 in
theorem dw100_ok : QD dw100 := by decide +kernel
set_option maxRecDepth 1000000 in
theorem dw101_ok : QD dw101 := by decide +kernel
set_option maxRecDepth 1000000 in
theorem dw102_ok : QD dw102 := by decide +kernel
set_option maxRecDepth 1000000 in
theorem dw103_ok : QD dw103 := by decide +kernel
end Go.Proofs.YtooelpaaidnhiaaGreatDoor

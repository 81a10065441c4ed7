/- Rows that turn memory: runs by the evaluator, in the kernel, in every order. No conditions. -/
import Derived.Test.YtooelpaaidnhiaaGreatDoorThH
namespace Go.Proofs.YtooelpaaidnhiaaGreatDoor
open Go.VM
set_option maxRecDepth 1000000 in
theorem dw88_ok : QD dw88 := by decide +kernel
set_option maxRecDepth 1000000 in
theorem dw89_ok : QD dw89 := by decide +kernel
set_option maxRecDepth 1000000 in
theorem dw90_ok : QD dw90 := by decide +kernel
set_option maxRecDepth 1000000 in
theorem dw91_ok : QD dw91 := by decide +kernel
set_option maxRecDepth 1000000 in
theorem dw92_ok : QD dw92 := by decide +kernel
set_option maxRecDepth 1000000 in
theorem dw93_ok : QD dw93 := by decide +kernel
set_option maxRecDepth 1000000 in
theorem dw94_ok : QD dw94 := by decide +kernel
set_option maxRecDepth 1000000 in
theorem dw95_ok : QD dw95 := by decide +kernel
set_option maxRecDepth 1000000 in
theorem dw96_ok : QD dw96 := by decide +kernel
set_option maxRecDepth 1000000 in
theorem dw97_ok : QD dw97 := by decide +kernel
set_option maxRecDepth 1000000 in
theorem dw98_ok : QD dw98 := by decide +kernel
end Go.Proofs.YtooelpaaidnhiaaGreatDoor

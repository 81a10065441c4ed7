/- Rows that turn memory: runs by the evaluator, in the kernel, in every order. No conditions. -/
import Derived.Test.YtooelpaaidnhiaaGreatDoorThH
namespace Go.Proofs.YtooelpaaidnhiaaGreatDoor
open Go.VM
set_option maxRecDepth 1000000 in
theorem dw55_ok : QD dw55 := by decide +kernel
set_option maxRecDepth 1000000 in
theorem dw56_ok : QD dw56 := by decide +kernel
set_option maxRecDepth 1000000 in
theorem dw57_ok : QD dw57 := by decide +kernel
set_option maxRecDepth 1000000 in
theorem dw58_ok : QD dw58 := by decide +kernel
set_option maxRecDepth 1000000 in
theorem dw59_ok : QD dw59 := by decide +kernel
set_option maxRecDepth 1000000 in
theorem dw60_ok : QD dw60 := by decide +kernel
set_option maxRecDepth 1000000 in
theorem dw61_ok : QD dw61 := by decide +kernel
set_option maxRecDepth 1000000 in
theorem dw62_ok : QD dw62 := by decide +kernel
set_option maxRecDepth 1000000 in
theorem dw63_ok : QD dw63 := by decide +kernel
set_option maxRecDepth 1000000 in
theorem dw64_ok : QD dw64 := by decide +kernel
set_option maxRecDepth 1000000 in
theorem dw65_ok : QD dw65 := by decide +kernel
end Go.Proofs.YtooelpaaidnhiaaGreatDoor

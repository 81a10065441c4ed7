/- Rows that turn memory: runs by the evaluator, in the kernel, in every order. No conditions. -/
import Derived.Test.YtooelpaaidnhiaaGreatDoorThH
namespace Go.Proofs.YtooelpaaidnhiaaGreatDoor
open Go.VM
set_option maxRecDepth 1000000 in
theorem dw77_ok : QD dw77 := by decide +kernel
set_option maxRecDepth 1000000 in
theorem dw78_ok : QD dw78 := by decide +kernel
set_option maxRecDepth 1000000 in
theorem dw79_ok : QD dw79 := by decide +kernel
set_option maxRecDepth 1000000 in
theorem dw80_ok : QD dw80 := by decide +kernel
set_option maxRecDepth 1000000 in
theorem dw81_ok : QD dw81 := by decide +kernel
set_option maxRecDepth 1000000 in
theorem dw82_ok : QD dw82 := by decide +kernel
set_option maxRecDepth 1000000 in
theorem dw83_ok : QD dw83 := by decide +kernel
set_option maxRecDepth 1000000 in
theorem dw84_ok : QD dw84 := by decide +kernel
set_option maxRecDepth 1000000 in
theorem dw85_ok : QD dw85 := by decide +kernel
set_option maxRecDepth 1000000 in
theorem dw86_ok : QD dw86 := by decide +kernel
set_option maxRecDepth 1000000 in
theorem dw87_ok : QD dw87 := by decide +kernel
end Go.Proofs.YtooelpaaidnhiaaGreatDoor

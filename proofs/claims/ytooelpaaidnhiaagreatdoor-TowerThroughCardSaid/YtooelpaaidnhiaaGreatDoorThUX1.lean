/- A function of two numbers at all numbers of a range: runs by the evaluator, in the kernel. No conditions. -/
import Derived.Test.YtooelpaaidnhiaaGreatDoorThH
namespace Go.Proofs.YtooelpaaidnhiaaGreatDoor
open Go.VM
set_option maxRecDepth 1000000 in
theorem num6_ok : @numRun hook0 Tryz.prog laidL 458 keyI key0 2 1024 5120 = true := by decide +kernel
set_option maxRecDepth 1000000 in
theorem num7_ok : @numRun hook0 Tryz.prog laidL 458 keyI key0 2 1024 6144 = true := by decide +kernel
set_option maxRecDepth 1000000 in
theorem num8_ok : @numRun hook0 Tryz.prog laidL 458 keyI key0 2 1024 7168 = true := by decide +kernel
set_option maxRecDepth 1000000 in
theorem num9_ok : @numRun hook0 Tryz.prog laidL 458 keyI key0 2 1024 8192 = true := by decide +kernel
set_option maxRecDepth 1000000 in
theorem num10_ok : @numRun hook0 Tryz.prog laidL 458 keyI key0 2 1024 9216 = true := by decide +kernel
set_option maxRecDepth 1000000 in
theorem num11_ok : @numRun hook0 Tryz.prog laidL 458 keyI key0 2 1024 10240 = true := by decide +kernel
end Go.Proofs.YtooelpaaidnhiaaGreatDoor

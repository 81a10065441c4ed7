/- A function of two numbers at all numbers of a range: runs by the evaluator, in the kernel. No conditions. -/
import Derived.Test.YtooelpaaidnhiaaGreatDoorThH
namespace Go.Proofs.YtooelpaaidnhiaaGreatDoor
open Go.VM
set_option maxRecDepth 1000000 in
theorem num12_ok : @numRun hook0 Tryz.prog laidL 458 keyI key0 2 1024 11264 = true := by decide +kernel
set_option maxRecDepth 1000000 in
theorem num13_ok : @numRun hook0 Tryz.prog laidL 458 keyI key0 2 1024 12288 = true := by decide +kernel
set_option maxRecDepth 1000000 in
theorem num14_ok : @numRun hook0 Tryz.prog laidL 458 keyI key0 2 1024 13312 = true := by decide +kernel
set_option maxRecDepth 1000000 in
theorem num15_ok : @numRun hook0 Tryz.prog laidL 458 keyI key0 2 1024 14336 = true := by decide +kernel
set_option maxRecDepth 1000000 in
theorem num16_ok : @numRun hook0 Tryz.prog laidL 458 keyI key0 2 1024 15360 = true := by decide +kernel
set_option maxRecDepth 1000000 in
theorem num17_ok : @numRun hook0 Tryz.prog laidL 458 keyI key0 3 1024 0 = true := by decide +kernel
end Go.Proofs.YtooelpaaidnhiaaGreatDoor

/- A function of two numbers at all numbers of a range: runs by the evaluator, in the kernel. No conditions. -/
import Derived.Test.YtooelpaaidnhiaaGreatDoorTnH
namespace Go.Proofs.YtooelpaaidnhiaaGreatDoor
open Go.VM
set_option maxRecDepth 1000000 in
theorem num0_ok : @numRun hook0 Tryz.prog laidL 458 keyI key0 1 256 0 = true := by decide +kernel
set_option maxRecDepth 1000000 in
theorem num1_ok : @numRun hook0 Tryz.prog laidL 458 keyI key0 2 1024 0 = true := by decide +kernel
set_option maxRecDepth 1000000 in
theorem num2_ok : @numRun hook0 Tryz.prog laidL 458 keyI key0 2 1024 1024 = true := by decide +kernel
set_option maxRecDepth 1000000 in
theorem num3_ok : @numRun hook0 Tryz.prog laidL 458 keyI key0 2 1024 2048 = true := by decide +kernel
set_option maxRecDepth 1000000 in
theorem num4_ok : @numRun hook0 Tryz.prog laidL 458 keyI key0 2 1024 3072 = true := by decide +kernel
set_option maxRecDepth 1000000 in
theorem num5_ok : @numRun hook0 Tryz.prog laidL 458 keyI key0 3 1024 0 = true := by decide +kernel
end Go.Proofs.YtooelpaaidnhiaaGreatDoor

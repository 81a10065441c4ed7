/- Rows of a table of answers: runs by the evaluator, in the kernel. No conditions. -/
import Derived.Test.YtoniabaeidgglaaGreatDoorThH
namespace Go.Proofs.YtoniabaeidgglaaGreatDoor
open Go.VM
set_option maxRecDepth 1000000 in
theorem t0_10_ok : t0_10.allb (rowsAll (@rowRun hook0 Tryz.prog laidL 109 key0)) = true := by decide +kernel
set_option maxRecDepth 1000000 in
theorem t0_11_ok : t0_11.allb (rowsAll (@rowRun hook0 Tryz.prog laidL 109 key0)) = true := by decide +kernel
set_option maxRecDepth 1000000 in
theorem t0_12_ok : t0_12.allb (rowsAll (@rowRun hook0 Tryz.prog laidL 109 key0)) = true := by decide +kernel
set_option maxRecDepth 1000000 in
theorem t0_13_ok : t0_13.allb (rowsAll (@rowRun hook0 Tryz.prog laidL 109 key0)) = true := by decide +kernel
set_option maxRecDepth 1000000 in
theorem t0_14_ok : t0_14.allb (rowsAll (@rowRun hook0 Tryz.prog laidL 109 key0)) = true := by decide +kernel
set_option maxRecDepth 1000000 in
theorem t0_15_ok : t0_15.allb (rowsAll (@rowRun hook0 Tryz.prog laidL 109 key0)) = true := by decide +kernel
set_option maxRecDepth 1000000 in
theorem t0_16_ok : t0_16.allb (rowsAll (@rowRun hook0 Tryz.prog laidL 109 key0)) = true := by decide +kernel
set_option maxRecDepth 1000000 in
theorem t0_17_ok : t0_17.allb (rowsAll (@rowRun hook0 Tryz.prog laidL 109 key0)) = true := by decide +kernel
end Go.Proofs.YtoniabaeidgglaaGreatDoor

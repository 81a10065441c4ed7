/- Rows of a table of answers: runs by the evaluator, in the kernel. No conditions. -/
import Derived.Test.YtoniabaeidgglaaGreatDoorThH
namespace Go.Proofs.YtoniabaeidgglaaGreatDoor
open Go.VM
set_option maxRecDepth 1000000 in
theorem t0_30_ok : t0_30.allb (rowsAll (@rowRun hook0 Tryz.prog laidL 109 key0)) = true := by decide +kernel
set_option maxRecDepth 1000000 in
theorem t0_31_ok : t0_31.allb (rowsAll (@rowRun hook0 Tryz.prog laidL 109 key0)) = true := by decide +kernel
set_option maxRecDepth 1000000 in
theorem t0_32_ok : t0_32.allb (rowsAll (@rowRun hook0 Tryz.prog laidL 109 key0)) = true := by decide +kernel
set_option maxRecDepth 1000000 in
theorem t0_33_ok : t0_33.allb (rowsAll (@rowRun hook0 Tryz.prog laidL 109 key0)) = true := by decide +kernel
set_option maxRecDepth 1000000 in
theorem t0_34_ok : t0_34.allb (rowsAll (@rowRun hook0 Tryz.prog laidL 109 key0)) = true := by decide +kernel
set_option maxRecDepth 1000000 in
theorem t0_35_ok : t0_35.allb (rowsAll (@rowRun hook0 Tryz.prog laidL 109 key0)) = true := by decide +kernel
set_option maxRecDepth 1000000 in
theorem t0_36_ok : t0_36.allb (rowsAll (@rowRun hook0 Tryz.prog laidL 109 key0)) = true := by decide +kernel
set_option maxRecDepth 1000000 in
theorem t0_37_ok : t0_37.allb (rowsAll (@rowRun hook0 Tryz.prog laidL 109 key0)) = true := by decide +kernel
end Go.Proofs.YtoniabaeidgglaaGreatDoor

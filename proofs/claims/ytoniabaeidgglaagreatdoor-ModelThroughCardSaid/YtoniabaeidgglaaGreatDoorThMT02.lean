/- Rows of a table of answers: runs by the evaluator, in the kernel. No conditions. -/
import Derived.Test.YtoniabaeidgglaaGreatDoorThH
namespace Go.Proofs.YtoniabaeidgglaaGreatDoor
open Go.VM
set_option maxRecDepth 1000000 in
theorem t0_20_ok : t0_20.allb (rowsAll (@rowRun hook0 Tryz.prog laidL 109 key0)) = true := by decide +kernel
set_option maxRecDepth 1000000 in
theorem t0_21_ok : t0_21.allb (rowsAll (@rowRun hook0 Tryz.prog laidL 109 key0)) = true := by decide +kernel
set_option maxRecDepth 1000000 in
theorem t0_22_ok : t0_22.allb (rowsAll (@rowRun hook0 Tryz.prog laidL 109 key0)) = true := by decide +kernel
set_option maxRecDepth 1000000 in
theorem t0_23_ok : t0_23.allb (rowsAll (@rowRun hook0 Tryz.prog laidL 109 key0)) = true := by decide +kernel
set_option maxRecDepth 1000000 in
theorem t0_24_ok : t0_24.allb (rowsAll (@rowRun hook0 Tryz.prog laidL 109 key0)) = true := by decide +kernel
set_option maxRecDepth 1000000 in
theorem t0_25_ok : t0_25.allb (rowsAll (@rowRun hook0 Tryz.prog laidL 109 key0)) = true := by decide +kernel
set_option maxRecDepth 1000000 in
theorem t0_26_ok : t0_26.allb (rowsAll (@rowRun hook0 Tryz.prog laidL 109 key0)) = true := by decide +kernel
set_option maxRecDepth 1000000 in
theorem t0_27_ok : t0_27.allb (rowsAll (@rowRun hook0 Tryz.prog laidL 109 key0)) = true := by decide +kernel
end Go.Proofs.YtoniabaeidgglaaGreatDoor

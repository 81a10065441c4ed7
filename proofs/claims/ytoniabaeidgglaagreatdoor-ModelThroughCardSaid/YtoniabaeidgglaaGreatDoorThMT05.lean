/- Rows of a table of answers: runs by the evaluator, in the kernel. No conditions. -/
import Derived.Test.YtoniabaeidgglaaGreatDoorThH
namespace Go.Proofs.YtoniabaeidgglaaGreatDoor
open Go.VM
set_option maxRecDepth 1000000 in
theorem t0_50_ok : t0_50.allb (rowsAll (@rowRun hook0 Tryz.prog laidL 109 key0)) = true := by decide +kernel
set_option maxRecDepth 1000000 in
theorem t0_51_ok : t0_51.allb (rowsAll (@rowRun hook0 Tryz.prog laidL 109 key0)) = true := by decide +kernel
set_option maxRecDepth 1000000 in
theorem t0_52_ok : t0_52.allb (rowsAll (@rowRun hook0 Tryz.prog laidL 109 key0)) = true := by decide +kernel
set_option maxRecDepth 1000000 in
theorem t0_53_ok : t0_53.allb (rowsAll (@rowRun hook0 Tryz.prog laidL 109 key0)) = true := by decide +kernel
set_option maxRecDepth 1000000 in
theorem t0_54_ok : t0_54.allb (rowsAll (@rowRun hook0 Tryz.prog laidL 109 key0)) = true := by decide +kernel
set_option maxRecDepth 1000000 in
theorem t0_55_ok : t0_55.allb (rowsAll (@rowRun hook0 Tryz.prog laidL 109 key0)) = true := by decide +kernel
set_option maxRecDepth 1000000 in
theorem t0_56_ok : t0_56.allb (rowsAll (@rowRun hook0 Tryz.prog laidL 109 key0)) = true := by decide +kernel
set_option maxRecDepth 1000000 in
theorem t0_57_ok : t0_57.allb (rowsAll (@rowRun hook0 Tryz.prog laidL 109 key0)) = true := by decide +kernel
end Go.Proofs.YtoniabaeidgglaaGreatDoor

/- Rows of a table of answers: runs by the evaluator, in the kernel. No conditions. -/
import Derived.Test.YtoniabaeidgglaaGreatDoorThH
namespace Go.Proofs.YtoniabaeidgglaaGreatDoor
open Go.VM
set_option maxRecDepth 1000000 in
theorem t0_60_ok : t0_60.allb (rowsAll (@rowRun hook0 Tryz.prog laidL 109 key0)) = true := by decide +kernel
set_option maxRecDepth 1000000 in
theorem t0_61_ok : t0_61.allb (rowsAll (@rowRun hook0 Tryz.prog laidL 109 key0)) = true := by decide +kernel
set_option maxRecDepth 1000000 in
theorem t0_62_ok : t0_62.allb (rowsAll (@rowRun hook0 Tryz.prog laidL 109 key0)) = true := by decide +kernel
set_option maxRecDepth 1000000 in
theorem t0_63_ok : t0_63.allb (rowsAll (@rowRun hook0 Tryz.prog laidL 109 key0)) = true := by decide +kernel
set_option maxRecDepth 1000000 in
theorem t0_64_ok : t0_64.allb (rowsAll (@rowRun hook0 Tryz.prog laidL 109 key0)) = true := by decide +kernel
set_option maxRecDepth 1000000 in
theorem t0_65_ok : t0_65.allb (rowsAll (@rowRun hook0 Tryz.prog laidL 109 key0)) = true := by decide +kernel
set_option maxRecDepth 1000000 in
theorem t0_66_ok : t0_66.allb (rowsAll (@rowRun hook0 Tryz.prog laidL 109 key0)) = true := by decide +kernel
set_option maxRecDepth 1000000 in
theorem t0_67_ok : t0_67.allb (rowsAll (@rowRun hook0 Tryz.prog laidL 109 key0)) = true := by decide +kernel
end Go.Proofs.YtoniabaeidgglaaGreatDoor

/- Rows of a table of answers: runs by the evaluator, in the kernel. No conditions. -/
import Derived.Test.YtooelpaaidnhiaaGreatDoorTnH
namespace Go.Proofs.YtooelpaaidnhiaaGreatDoor
open Go.VM
set_option maxRecDepth 1000000 in
theorem t0_40_ok : t0_40.allb (rowsAll (@rowRun hook0 Tryz.prog laidL 303 key0)) = true := by decide +kernel
set_option maxRecDepth 1000000 in
theorem t0_41_ok : t0_41.allb (rowsAll (@rowRun hook0 Tryz.prog laidL 303 key0)) = true := by decide +kernel
set_option maxRecDepth 1000000 in
theorem t0_42_ok : t0_42.allb (rowsAll (@rowRun hook0 Tryz.prog laidL 303 key0)) = true := by decide +kernel
set_option maxRecDepth 1000000 in
theorem t0_43_ok : t0_43.allb (rowsAll (@rowRun hook0 Tryz.prog laidL 303 key0)) = true := by decide +kernel
set_option maxRecDepth 1000000 in
theorem t0_44_ok : t0_44.allb (rowsAll (@rowRun hook0 Tryz.prog laidL 303 key0)) = true := by decide +kernel
set_option maxRecDepth 1000000 in
theorem t0_45_ok : t0_45.allb (rowsAll (@rowRun hook0 Tryz.prog laidL 303 key0)) = true := by decide +kernel
set_option maxRecDepth 1000000 in
theorem t0_46_ok : t0_46.allb (rowsAll (@rowRun hook0 Tryz.prog laidL 303 key0)) = true := by decide +kernel
set_option maxRecDepth 1000000 in
theorem t0_47_ok : t0_47.allb (rowsAll (@rowRun hook0 Tryz.prog laidL 303 key0)) = true := by decide +kernel
set_option maxRecDepth 1000000 in
theorem t0_50_ok : t0_50.allb (rowsAll (@rowRun hook0 Tryz.prog laidL 303 key0)) = true := by decide +kernel
set_option maxRecDepth 1000000 in
theorem t0_51_ok : t0_51.allb (rowsAll (@rowRun hook0 Tryz.prog laidL 303 key0)) = true := by decide +kernel
set_option maxRecDepth 1000000 in
theorem t0_52_ok : t0_52.allb (rowsAll (@rowRun hook0 Tryz.prog laidL 303 key0)) = true := by decide +kernel
set_option maxRecDepth 1000000 in
theorem t0_53_ok : t0_53.allb (rowsAll (@rowRun hook0 Tryz.prog laidL 303 key0)) = true := by decide +kernel
set_option maxRecDepth 1000000 in
theorem t0_54_ok : t0_54.allb (rowsAll (@rowRun hook0 Tryz.prog laidL 303 key0)) = true := by decide +kernel
set_option maxRecDepth 1000000 in
theorem t0_55_ok : t0_55.allb (rowsAll (@rowRun hook0 Tryz.prog laidL 303 key0)) = true := by decide +kernel
set_option maxRecDepth 1000000 in
theorem t0_56_ok : t0_56.allb (rowsAll (@rowRun hook0 Tryz.prog laidL 303 key0)) = true := by decide +kernel
set_option maxRecDepth 1000000 in
theorem t0_57_ok : t0_57.allb (rowsAll (@rowRun hook0 Tryz.prog laidL 303 key0)) = true := by decide +kernel
set_option maxRecDepth 1000000 in
theorem t0_60_ok : t0_60.allb (rowsAll (@rowRun hook0 Tryz.prog laidL 303 key0)) = true := by decide +kernel
set_option maxRecDepth 1000000 in
theorem t0_61_ok : t0_61.allb (rowsAll (@rowRun hook0 Tryz.prog laidL 303 key0)) = true := by decide +kernel
set_option maxRecDepth 1000000 in
theorem t0_62_ok : t0_62.allb (rowsAll (@rowRun hook0 Tryz.prog laidL 303 key0)) = true := by decide +kernel
set_option maxRecDepth 1000000 in
theorem t0_63_ok : t0_63.allb (rowsAll (@rowRun hook0 Tryz.prog laidL 303 key0)) = true := by decide +kernel
set_option maxRecDepth 1000000 in
theorem t0_64_ok : t0_64.allb (rowsAll (@rowRun hook0 Tryz.prog laidL 303 key0)) = true := by decide +kernel
set_option maxRecDepth 1000000 in
theorem t0_65_ok : t0_65.allb (rowsAll (@rowRun hook0 Tryz.prog laidL 303 key0)) = true := by decide +kernel
set_option maxRecDepth 1000000 in
theorem t0_66_ok : t0_66.allb (rowsAll (@rowRun hook0 Tryz.prog laidL 303 key0)) = true := by decide +kernel
set_option maxRecDepth 1000000 in
theorem t0_67_ok : t0_67.allb (rowsAll (@rowRun hook0 Tryz.prog laidL 303 key0)) = true := by decide +kernel
set_option maxRecDepth 1000000 in
theorem t0_70_ok : t0_70.allb (rowsAll (@rowRun hook0 Tryz.prog laidL 303 key0)) = true := by decide +kernel
set_option maxRecDepth 1000000 in
theorem t0_71_ok : t0_71.allb (rowsAll (@rowRun hook0 Tryz.prog laidL 303 key0)) = true := by decide +kernel
set_option maxRecDepth 1000000 in
theorem t0_72_ok : t0_72.allb (rowsAll (@rowRun hook0 Tryz.prog laidL 303 key0)) = true := by decide +kernel
set_option maxRecDepth 1000000 in
theorem t0_73_ok : t0_73.allb (rowsAll (@rowRun hook0 Tryz.prog laidL 303 key0)) = true := by decide +kernel
set_option maxRecDepth 1000000 in
theorem t0_74_ok : t0_74.allb (rowsAll (@rowRun hook0 Tryz.prog laidL 303 key0)) = true := by decide +kernel
set_option maxRecDepth 1000000 in
theorem t0_75_ok : t0_75.allb (rowsAll (@rowRun hook0 Tryz.prog laidL 303 key0)) = true := by decide +kernel
set_option maxRecDepth 1000000 in
theorem t0_76_ok : t0_76.allb (rowsAll (@rowRun hook0 Tryz.prog laidL 303 key0)) = true := by decide +kernel
set_option maxRecDepth 1000000 in
theorem t0_77_ok : t0_77.allb (rowsAll (@rowRun hook0 Tryz.prog laidL 303 key0)) = true := by decide +kernel
end Go.Proofs.YtooelpaaidnhiaaGreatDoor

/- Rows of a table of answers: runs by the evaluator, in the kernel. No conditions. -/
import Derived.Test.YtooelpaaidnhiaaGreatDoorTnH
namespace Go.Proofs.YtooelpaaidnhiaaGreatDoor
open Go.VM
set_option maxRecDepth 1000000 in
theorem t0_00_ok : t0_00.allb (rowsAll (@rowRun hook0 Tryz.prog laidL 303 key0)) = true := by decide +kernel
set_option maxRecDepth 1000000 in
theorem t0_01_ok : t0_01.allb (rowsAll (@rowRun hook0 Tryz.prog laidL 303 key0)) = true := by decide +kernel
set_option maxRecDepth 1000000 in
theorem t0_02_ok : t0_02.allb (rowsAll (@rowRun hook0 Tryz.prog laidL 303 key0)) = true := by decide +kernel
set_option maxRecDepth 1000000 in
theorem t0_03_ok : t0_03.allb (rowsAll (@rowRun hook0 Tryz.prog laidL 303 key0)) = true := by decide +kernel
set_option maxRecDepth 1000000 in
theorem t0_04_ok : t0_04.allb (rowsAll (@rowRun hook0 Tryz.prog laidL 303 key0)) = true := by decide +kernel
set_option maxRecDepth 1000000 in
theorem t0_05_ok : t0_05.allb (rowsAll (@rowRun hook0 Tryz.prog laidL 303 key0)) = true := by decide +kernel
set_option maxRecDepth 1000000 in
theorem t0_06_ok : t0_06.allb (rowsAll (@rowRun hook0 Tryz.prog laidL 303 key0)) = true := by decide +kernel
set_option maxRecDepth 1000000 in
theorem t0_07_ok : t0_07.allb (rowsAll (@rowRun hook0 Tryz.prog laidL 303 key0)) = true := by decide +kernel
set_option maxRecDepth 1000000 in
theorem t0_10_ok : t0_10.allb (rowsAll (@rowRun hook0 Tryz.prog laidL 303 key0)) = true := by decide +kernel
set_option maxRecDepth 1000000 in
theorem t0_11_ok : t0_11.allb (rowsAll (@rowRun hook0 Tryz.prog laidL 303 key0)) = true := by decide +kernel
set_option maxRecDepth 1000000 in
theorem t0_12_ok : t0_12.allb (rowsAll (@rowRun hook0 Tryz.prog laidL 303 key0)) = true := by decide +kernel
set_option maxRecDepth 1000000 in
theorem t0_13_ok : t0_13.allb (rowsAll (@rowRun hook0 Tryz.prog laidL 303 key0)) = true := by decide +kernel
set_option maxRecDepth 1000000 in
theorem t0_14_ok : t0_14.allb (rowsAll (@rowRun hook0 Tryz.prog laidL 303 key0)) = true := by decide +kernel
set_option maxRecDepth 1000000 in
theorem t0_15_ok : t0_15.allb (rowsAll (@rowRun hook0 Tryz.prog laidL 303 key0)) = true := by decide +kernel
set_option maxRecDepth 1000000 in
theorem t0_16_ok : t0_16.allb (rowsAll (@rowRun hook0 Tryz.prog laidL 303 key0)) = true := by decide +kernel
set_option maxRecDepth 1000000 in
theorem t0_17_ok : t0_17.allb (rowsAll (@rowRun hook0 Tryz.prog laidL 303 key0)) = true := by decide +kernel
set_option maxRecDepth 1000000 in
theorem t0_20_ok : t0_20.allb (rowsAll (@rowRun hook0 Tryz.prog laidL 303 key0)) = true := by decide +kernel
set_option maxRecDepth 1000000 in
theorem t0_21_ok : t0_21.allb (rowsAll (@rowRun hook0 Tryz.prog laidL 303 key0)) = true := by decide +kernel
set_option maxRecDepth 1000000 in
theorem t0_22_ok : t0_22.allb (rowsAll (@rowRun hook0 Tryz.prog laidL 303 key0)) = true := by decide +kernel
set_option maxRecDepth 1000000 in
theorem t0_23_ok : t0_23.allb (rowsAll (@rowRun hook0 Tryz.prog laidL 303 key0)) = true := by decide +kernel
set_option maxRecDepth 1000000 in
theorem t0_24_ok : t0_24.allb (rowsAll (@rowRun hook0 Tryz.prog laidL 303 key0)) = true := by decide +kernel
set_option maxRecDepth 1000000 in
theorem t0_25_ok : t0_25.allb (rowsAll (@rowRun hook0 Tryz.prog laidL 303 key0)) = true := by decide +kernel
set_option maxRecDepth 1000000 in
theorem t0_26_ok : t0_26.allb (rowsAll (@rowRun hook0 Tryz.prog laidL 303 key0)) = true := by decide +kernel
set_option maxRecDepth 1000000 in
theorem t0_27_ok : t0_27.allb (rowsAll (@rowRun hook0 Tryz.prog laidL 303 key0)) = true := by decide +kernel
set_option maxRecDepth 1000000 in
theorem t0_30_ok : t0_30.allb (rowsAll (@rowRun hook0 Tryz.prog laidL 303 key0)) = true := by decide +kernel
set_option maxRecDepth 1000000 in
theorem t0_31_ok : t0_31.allb (rowsAll (@rowRun hook0 Tryz.prog laidL 303 key0)) = true := by decide +kernel
set_option maxRecDepth 1000000 in
theorem t0_32_ok : t0_32.allb (rowsAll (@rowRun hook0 Tryz.prog laidL 303 key0)) = true := by decide +kernel
set_option maxRecDepth 1000000 in
theorem t0_33_ok : t0_33.allb (rowsAll (@rowRun hook0 Tryz.prog laidL 303 key0)) = true := by decide +kernel
set_option maxRecDepth 1000000 in
theorem t0_34_ok : t0_34.allb (rowsAll (@rowRun hook0 Tryz.prog laidL 303 key0)) = true := by decide +kernel
set_option maxRecDepth 1000000 in
theorem t0_35_ok : t0_35.allb (rowsAll (@rowRun hook0 Tryz.prog laidL 303 key0)) = true := by decide +kernel
set_option maxRecDepth 1000000 in
theorem t0_36_ok : t0_36.allb (rowsAll (@rowRun hook0 Tryz.prog laidL 303 key0)) = true := by decide +kernel
set_option maxRecDepth 1000000 in
theorem t0_37_ok : t0_37.allb (rowsAll (@rowRun hook0 Tryz.prog laidL 303 key0)) = true := by decide +kernel
end Go.Proofs.YtooelpaaidnhiaaGreatDoor

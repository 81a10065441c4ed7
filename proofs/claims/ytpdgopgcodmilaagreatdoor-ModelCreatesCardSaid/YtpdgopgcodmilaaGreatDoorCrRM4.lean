/- Rounds of the law's loop by the evaluator, in the kernel: every way from a loop's head comes to the next head's state, or ends and answers true. No conditions. -/
import Derived.Test.YtpdgopgcodmilaaGreatDoorCrS
import Derived.KernelRfl
namespace Go.Proofs.YtpdgopgcodmilaaGreatDoor
open Go.VM
set_option maxRecDepth 1000000 in
theorem j3_1 : (@stopsF Tryz.prog hookM 6 isTrue 500000 s3_1).map (List.map (@nextZ Tryz.prog hookM dsL (ksOf 1) ts)) = some (List.replicate 3 s3_2) := by kernel_rfl
set_option maxRecDepth 1000000 in
theorem j5_3 : (@stopsF Tryz.prog hookM 6 isTrue 500000 s5_3).map (List.map (@nextZ Tryz.prog hookM dsL (ksOf 3) ts)) = some (List.replicate 3 s5_4) := by kernel_rfl
set_option maxRecDepth 1000000 in
theorem j7_1 : (@stopsF Tryz.prog hookM 6 isTrue 500000 s7_1).map (List.map (@nextZ Tryz.prog hookM dsL (ksOf 1) ts)) = some (List.replicate 3 s7_2) := by kernel_rfl
set_option maxRecDepth 1000000 in
theorem j8_3 : (@stopsF Tryz.prog hookM 6 isTrue 500000 s8_3).map (List.map (@nextZ Tryz.prog hookM dsL (ksOf 3) ts)) = some (List.replicate 3 s8_4) := by kernel_rfl
set_option maxRecDepth 1000000 in
theorem j9_4 : (@stopsF Tryz.prog hookM 6 isTrue 500000 s9_4).map (List.map (@nextZ Tryz.prog hookM dsL (ksOf 4) ts)) = some (List.replicate 3 s9_5) := by kernel_rfl
set_option maxRecDepth 1000000 in
theorem last5 : @runF Tryz.prog hookM isTrue 500000 s5_5 = true := by decide +kernel
end Go.Proofs.YtpdgopgcodmilaaGreatDoor

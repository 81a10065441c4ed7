/- Rounds of the law's loop by the evaluator, in the kernel: every way from a loop's head comes to the next head's state, or ends and answers true. No conditions. -/
import Derived.Test.YtpdgopgcodmilaaGreatDoorCrS
import Derived.KernelRfl
namespace Go.Proofs.YtpdgopgcodmilaaGreatDoor
open Go.VM
set_option maxRecDepth 1000000 in
theorem j2_1 : (@stopsF Tryz.prog hookM 6 isTrue 500000 s2_1).map (List.map (@nextZ Tryz.prog hookM dsL (ksOf 1) ts)) = some (List.replicate 3 s2_2) := by kernel_rfl
set_option maxRecDepth 1000000 in
theorem j5_1 : (@stopsF Tryz.prog hookM 6 isTrue 500000 s5_1).map (List.map (@nextZ Tryz.prog hookM dsL (ksOf 1) ts)) = some (List.replicate 3 s5_2) := by kernel_rfl
set_option maxRecDepth 1000000 in
theorem j6_5 : (@stopsF Tryz.prog hookM 6 isTrue 500000 s6_5).map (List.map (@nextZ Tryz.prog hookM dsL (ksOf 5) ts)) = some (List.replicate 3 s6_6) := by kernel_rfl
set_option maxRecDepth 1000000 in
theorem j8_1 : (@stopsF Tryz.prog hookM 6 isTrue 500000 s8_1).map (List.map (@nextZ Tryz.prog hookM dsL (ksOf 1) ts)) = some (List.replicate 3 s8_2) := by kernel_rfl
set_option maxRecDepth 1000000 in
theorem j9_2 : (@stopsF Tryz.prog hookM 6 isTrue 500000 s9_2).map (List.map (@nextZ Tryz.prog hookM dsL (ksOf 2) ts)) = some (List.replicate 3 s9_3) := by kernel_rfl
set_option maxRecDepth 1000000 in
theorem last3 : @runF Tryz.prog hookM isTrue 500000 s3_3 = true := by decide +kernel
end Go.Proofs.YtpdgopgcodmilaaGreatDoor

/- Rounds of the law's loop by the evaluator, in the kernel: every way from a loop's head comes to the next head's state, or ends and answers true. No conditions. -/
import Derived.Test.YtpdgopgcodmilaaGreatDoorCrS
import Derived.KernelRfl
namespace Go.Proofs.YtpdgopgcodmilaaGreatDoor
open Go.VM
set_option maxRecDepth 1000000 in
theorem j3_0 : (@stopsF Tryz.prog hookM 6 isTrue 500000 s3_0).map (List.map (@nextZ Tryz.prog hookM dsL (ksOf 0) ts)) = some (List.replicate 3 s3_1) := by kernel_rfl
set_option maxRecDepth 1000000 in
theorem j5_2 : (@stopsF Tryz.prog hookM 6 isTrue 500000 s5_2).map (List.map (@nextZ Tryz.prog hookM dsL (ksOf 2) ts)) = some (List.replicate 3 s5_3) := by kernel_rfl
set_option maxRecDepth 1000000 in
theorem j7_0 : (@stopsF Tryz.prog hookM 6 isTrue 500000 s7_0).map (List.map (@nextZ Tryz.prog hookM dsL (ksOf 0) ts)) = some (List.replicate 3 s7_1) := by kernel_rfl
set_option maxRecDepth 1000000 in
theorem j8_2 : (@stopsF Tryz.prog hookM 6 isTrue 500000 s8_2).map (List.map (@nextZ Tryz.prog hookM dsL (ksOf 2) ts)) = some (List.replicate 3 s8_3) := by kernel_rfl
set_option maxRecDepth 1000000 in
theorem j9_3 : (@stopsF Tryz.prog hookM 6 isTrue 500000 s9_3).map (List.map (@nextZ Tryz.prog hookM dsL (ksOf 3) ts)) = some (List.replicate 3 s9_4) := by kernel_rfl
set_option maxRecDepth 1000000 in
theorem last4 : @runF Tryz.prog hookM isTrue 500000 s4_4 = true := by decide +kernel
end Go.Proofs.YtpdgopgcodmilaaGreatDoor

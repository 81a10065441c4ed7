/- Rounds of the law's loop by the evaluator, in the kernel: every way from a loop's head comes to the next head's state, or ends and answers true. No conditions. -/
import Derived.Test.YtpdgopgcodmilaaGreatDoorCrS
import Derived.KernelRfl
namespace Go.Proofs.YtpdgopgcodmilaaGreatDoor
open Go.VM
set_option maxRecDepth 1000000 in
theorem j3_2 : (@stopsF Tryz.prog hookM 6 isTrue 500000 s3_2).map (List.map (@nextZ Tryz.prog hookM dsL (ksOf 2) ts)) = some (List.replicate 3 s3_3) := by kernel_rfl
set_option maxRecDepth 1000000 in
theorem j5_4 : (@stopsF Tryz.prog hookM 6 isTrue 500000 s5_4).map (List.map (@nextZ Tryz.prog hookM dsL (ksOf 4) ts)) = some (List.replicate 3 s5_5) := by kernel_rfl
set_option maxRecDepth 1000000 in
theorem j7_2 : (@stopsF Tryz.prog hookM 6 isTrue 500000 s7_2).map (List.map (@nextZ Tryz.prog hookM dsL (ksOf 2) ts)) = some (List.replicate 3 s7_3) := by kernel_rfl
set_option maxRecDepth 1000000 in
theorem j8_4 : (@stopsF Tryz.prog hookM 6 isTrue 500000 s8_4).map (List.map (@nextZ Tryz.prog hookM dsL (ksOf 4) ts)) = some (List.replicate 3 s8_5) := by kernel_rfl
set_option maxRecDepth 1000000 in
theorem j9_5 : (@stopsF Tryz.prog hookM 6 isTrue 500000 s9_5).map (List.map (@nextZ Tryz.prog hookM dsL (ksOf 5) ts)) = some (List.replicate 3 s9_6) := by kernel_rfl
set_option maxRecDepth 1000000 in
theorem last6 : @runF Tryz.prog hookM isTrue 500000 s6_6 = true := by decide +kernel
end Go.Proofs.YtpdgopgcodmilaaGreatDoor

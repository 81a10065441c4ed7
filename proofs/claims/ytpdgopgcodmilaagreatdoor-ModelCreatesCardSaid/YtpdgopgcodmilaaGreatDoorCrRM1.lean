/- Rounds of the law's loop by the evaluator, in the kernel: every way from a loop's head comes to the next head's state, or ends and answers true. No conditions. -/
import Derived.Test.YtpdgopgcodmilaaGreatDoorCrS
import Derived.KernelRfl
namespace Go.Proofs.YtpdgopgcodmilaaGreatDoor
open Go.VM
set_option maxRecDepth 1000000 in
theorem j2_0 : (@stopsF Tryz.prog hookM 6 isTrue 500000 s2_0).map (List.map (@nextZ Tryz.prog hookM dsL (ksOf 0) ts)) = some (List.replicate 3 s2_1) := by kernel_rfl
set_option maxRecDepth 1000000 in
theorem j5_0 : (@stopsF Tryz.prog hookM 6 isTrue 500000 s5_0).map (List.map (@nextZ Tryz.prog hookM dsL (ksOf 0) ts)) = some (List.replicate 3 s5_1) := by kernel_rfl
set_option maxRecDepth 1000000 in
theorem j6_4 : (@stopsF Tryz.prog hookM 6 isTrue 500000 s6_4).map (List.map (@nextZ Tryz.prog hookM dsL (ksOf 4) ts)) = some (List.replicate 3 s6_5) := by kernel_rfl
set_option maxRecDepth 1000000 in
theorem j8_0 : (@stopsF Tryz.prog hookM 6 isTrue 500000 s8_0).map (List.map (@nextZ Tryz.prog hookM dsL (ksOf 0) ts)) = some (List.replicate 3 s8_1) := by kernel_rfl
set_option maxRecDepth 1000000 in
theorem j9_1 : (@stopsF Tryz.prog hookM 6 isTrue 500000 s9_1).map (List.map (@nextZ Tryz.prog hookM dsL (ksOf 1) ts)) = some (List.replicate 3 s9_2) := by kernel_rfl
set_option maxRecDepth 1000000 in
theorem last2 : @runF Tryz.prog hookM isTrue 500000 s2_2 = true := by decide +kernel
set_option maxRecDepth 1000000 in
theorem run_emp : @runF Tryz.prog hookM isTrue 500000 (startSt Tryz.prog laidL 3 [.emptyS]) = true := by decide +kernel
end Go.Proofs.YtpdgopgcodmilaaGreatDoor

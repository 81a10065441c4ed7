/- Rounds of the law's loop by the evaluator, in the kernel: every way from a loop's head comes to the next head's state, or ends and answers true. No conditions. -/
import Derived.Test.YtpdgopgcodmilaaGreatDoorCrS
import Derived.KernelRfl
namespace Go.Proofs.YtpdgopgcodmilaaGreatDoor
open Go.VM
set_option maxRecDepth 1000000 in
theorem j4_1 : (@stopsF Tryz.prog hookM 6 isTrue 500000 s4_1).map (List.map (@nextZ Tryz.prog hookM dsL (ksOf 1) ts)) = some (List.replicate 3 s4_2) := by kernel_rfl
set_option maxRecDepth 1000000 in
theorem j6_1 : (@stopsF Tryz.prog hookM 6 isTrue 500000 s6_1).map (List.map (@nextZ Tryz.prog hookM dsL (ksOf 1) ts)) = some (List.replicate 3 s6_2) := by kernel_rfl
set_option maxRecDepth 1000000 in
theorem j7_4 : (@stopsF Tryz.prog hookM 6 isTrue 500000 s7_4).map (List.map (@nextZ Tryz.prog hookM dsL (ksOf 4) ts)) = some (List.replicate 3 s7_5) := by kernel_rfl
set_option maxRecDepth 1000000 in
theorem j8_6 : (@stopsF Tryz.prog hookM 6 isTrue 500000 s8_6).map (List.map (@nextZ Tryz.prog hookM dsL (ksOf 6) ts)) = some (List.replicate 3 s8_7) := by kernel_rfl
set_option maxRecDepth 1000000 in
theorem j9_7 : (@stopsF Tryz.prog hookM 6 isTrue 500000 s9_7).map (List.map (@nextZ Tryz.prog hookM dsL (ksOf 7) ts)) = some (List.replicate 3 s9_8) := by kernel_rfl
set_option maxRecDepth 1000000 in
theorem last8 : @runF Tryz.prog hookM isTrue 500000 s8_8 = true := by decide +kernel
end Go.Proofs.YtpdgopgcodmilaaGreatDoor

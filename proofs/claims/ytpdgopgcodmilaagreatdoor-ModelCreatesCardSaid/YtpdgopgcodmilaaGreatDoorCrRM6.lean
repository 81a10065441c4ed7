/- Rounds of the law's loop by the evaluator, in the kernel: every way from a loop's head comes to the next head's state, or ends and answers true. No conditions. -/
import Derived.Test.YtpdgopgcodmilaaGreatDoorCrS
import Derived.KernelRfl
namespace Go.Proofs.YtpdgopgcodmilaaGreatDoor
open Go.VM
set_option maxRecDepth 1000000 in
theorem j4_0 : (@stopsF Tryz.prog hookM 6 isTrue 500000 s4_0).map (List.map (@nextZ Tryz.prog hookM dsL (ksOf 0) ts)) = some (List.replicate 3 s4_1) := by kernel_rfl
set_option maxRecDepth 1000000 in
theorem j6_0 : (@stopsF Tryz.prog hookM 6 isTrue 500000 s6_0).map (List.map (@nextZ Tryz.prog hookM dsL (ksOf 0) ts)) = some (List.replicate 3 s6_1) := by kernel_rfl
set_option maxRecDepth 1000000 in
theorem j7_3 : (@stopsF Tryz.prog hookM 6 isTrue 500000 s7_3).map (List.map (@nextZ Tryz.prog hookM dsL (ksOf 3) ts)) = some (List.replicate 3 s7_4) := by kernel_rfl
set_option maxRecDepth 1000000 in
theorem j8_5 : (@stopsF Tryz.prog hookM 6 isTrue 500000 s8_5).map (List.map (@nextZ Tryz.prog hookM dsL (ksOf 5) ts)) = some (List.replicate 3 s8_6) := by kernel_rfl
set_option maxRecDepth 1000000 in
theorem j9_6 : (@stopsF Tryz.prog hookM 6 isTrue 500000 s9_6).map (List.map (@nextZ Tryz.prog hookM dsL (ksOf 6) ts)) = some (List.replicate 3 s9_7) := by kernel_rfl
set_option maxRecDepth 1000000 in
theorem last7 : @runF Tryz.prog hookM isTrue 500000 s7_7 = true := by decide +kernel
end Go.Proofs.YtpdgopgcodmilaaGreatDoor

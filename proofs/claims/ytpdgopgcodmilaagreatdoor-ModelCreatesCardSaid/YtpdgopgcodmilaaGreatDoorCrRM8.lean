/- Rounds of the law's loop by the evaluator, in the kernel: every way from a loop's head comes to the next head's state, or ends and answers true. No conditions. -/
import Derived.Test.YtpdgopgcodmilaaGreatDoorCrS
import Derived.KernelRfl
namespace Go.Proofs.YtpdgopgcodmilaaGreatDoor
open Go.VM
set_option maxRecDepth 1000000 in
theorem j4_2 : (@stopsF Tryz.prog hookM 6 isTrue 500000 s4_2).map (List.map (@nextZ Tryz.prog hookM dsL (ksOf 2) ts)) = some (List.replicate 3 s4_3) := by kernel_rfl
set_option maxRecDepth 1000000 in
theorem j6_2 : (@stopsF Tryz.prog hookM 6 isTrue 500000 s6_2).map (List.map (@nextZ Tryz.prog hookM dsL (ksOf 2) ts)) = some (List.replicate 3 s6_3) := by kernel_rfl
set_option maxRecDepth 1000000 in
theorem j7_5 : (@stopsF Tryz.prog hookM 6 isTrue 500000 s7_5).map (List.map (@nextZ Tryz.prog hookM dsL (ksOf 5) ts)) = some (List.replicate 3 s7_6) := by kernel_rfl
set_option maxRecDepth 1000000 in
theorem j8_7 : (@stopsF Tryz.prog hookM 6 isTrue 500000 s8_7).map (List.map (@nextZ Tryz.prog hookM dsL (ksOf 7) ts)) = some (List.replicate 3 s8_8) := by kernel_rfl
set_option maxRecDepth 1000000 in
theorem j9_8 : (@stopsF Tryz.prog hookM 6 isTrue 500000 s9_8).map (List.map (@nextZ Tryz.prog hookM dsL (ksOf 8) ts)) = some (List.replicate 3 s9_9) := by kernel_rfl
set_option maxRecDepth 1000000 in
theorem last9 : @runF Tryz.prog hookM isTrue 500000 s9_9 = true := by decide +kernel
end Go.Proofs.YtpdgopgcodmilaaGreatDoor

/- Rounds of the law's loop by the evaluator, in the kernel: every way from a loop's head comes to the next head's state, or ends and answers true. No conditions. -/
import Derived.Test.YtpdgopgcodmilaaGreatDoorCrS
import Derived.KernelRfl
namespace Go.Proofs.YtpdgopgcodmilaaGreatDoor
open Go.VM
set_option maxRecDepth 1000000 in
theorem j1_0 : (@stopsF Tryz.prog hookM 6 isTrue 500000 s1_0).map (List.map (@nextZ Tryz.prog hookM dsL (ksOf 0) ts)) = some (List.replicate 3 s1_1) := by kernel_rfl
set_option maxRecDepth 1000000 in
theorem j4_3 : (@stopsF Tryz.prog hookM 6 isTrue 500000 s4_3).map (List.map (@nextZ Tryz.prog hookM dsL (ksOf 3) ts)) = some (List.replicate 3 s4_4) := by kernel_rfl
set_option maxRecDepth 1000000 in
theorem j6_3 : (@stopsF Tryz.prog hookM 6 isTrue 500000 s6_3).map (List.map (@nextZ Tryz.prog hookM dsL (ksOf 3) ts)) = some (List.replicate 3 s6_4) := by kernel_rfl
set_option maxRecDepth 1000000 in
theorem j7_6 : (@stopsF Tryz.prog hookM 6 isTrue 500000 s7_6).map (List.map (@nextZ Tryz.prog hookM dsL (ksOf 6) ts)) = some (List.replicate 3 s7_7) := by kernel_rfl
set_option maxRecDepth 1000000 in
theorem j9_0 : (@stopsF Tryz.prog hookM 6 isTrue 500000 s9_0).map (List.map (@nextZ Tryz.prog hookM dsL (ksOf 0) ts)) = some (List.replicate 3 s9_1) := by kernel_rfl
set_option maxRecDepth 1000000 in
theorem last1 : @runF Tryz.prog hookM isTrue 500000 s1_1 = true := by decide +kernel
set_option maxRecDepth 1000000 in
theorem run_nil : @runF Tryz.prog hookM isTrue 500000 (startSt Tryz.prog laidL 3 [.nilSlice]) = true := by decide +kernel
end Go.Proofs.YtpdgopgcodmilaaGreatDoor

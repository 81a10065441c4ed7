/- Rounds of the law's loop by the evaluator, in the kernel: every way from a loop's head comes to the next head's state, or ends and answers true. No conditions. -/
import Derived.Test.YtaoackhjaoofnaaJqS
import Derived.KernelRfl
namespace Go.Proofs.Ytaoackhjaoofnaa
open Go.VM
set_option maxRecDepth 1000000 in
set_option maxHeartbeats 40000000 in
theorem j6 : (@stopsF Try.prog hookM 3 isTrue 500000 s6).map (List.map (@nextW Try.prog hookM (wsOf 6) dsL (ksOf 6) ts)) = some (List.replicate 120 s7) := by kernel_rfl
set_option maxRecDepth 1000000 in
set_option maxHeartbeats 40000000 in
theorem j17 : (@stopsF Try.prog hookM 3 isTrue 500000 s17).map (List.map (@nextW Try.prog hookM (wsOf 17) dsL (ksOf 17) ts)) = some (List.replicate 120 s18) := by kernel_rfl
set_option maxRecDepth 1000000 in
set_option maxHeartbeats 40000000 in
theorem j28 : (@stopsF Try.prog hookM 3 isTrue 500000 s28).map (List.map (@nextW Try.prog hookM (wsOf 28) dsL (ksOf 28) ts)) = some (List.replicate 120 s29) := by kernel_rfl
end Go.Proofs.Ytaoackhjaoofnaa

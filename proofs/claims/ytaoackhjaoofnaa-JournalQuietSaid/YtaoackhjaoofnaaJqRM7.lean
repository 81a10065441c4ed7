/- Rounds of the law's loop by the evaluator, in the kernel: every way from a loop's head comes to the next head's state, or ends and answers true. No conditions. -/
import Derived.Test.YtaoackhjaoofnaaJqS
import Derived.KernelRfl
namespace Go.Proofs.Ytaoackhjaoofnaa
open Go.VM
set_option maxRecDepth 1000000 in
set_option maxHeartbeats 40000000 in
theorem j7 : (@stopsF Try.prog hookM 3 isTrue 500000 s7).map (List.map (@nextW Try.prog hookM (wsOf 7) dsL (ksOf 7) ts)) = some (List.replicate 120 s8) := by kernel_rfl
set_option maxRecDepth 1000000 in
set_option maxHeartbeats 40000000 in
theorem j18 : (@stopsF Try.prog hookM 3 isTrue 500000 s18).map (List.map (@nextW Try.prog hookM (wsOf 18) dsL (ksOf 18) ts)) = some (List.replicate 120 s19) := by kernel_rfl
set_option maxRecDepth 1000000 in
set_option maxHeartbeats 40000000 in
theorem j29 : (@stopsF Try.prog hookM 3 isTrue 500000 s29).map (List.map (@nextW Try.prog hookM (wsOf 29) dsL (ksOf 29) ts)) = some (List.replicate 120 s30) := by kernel_rfl
end Go.Proofs.Ytaoackhjaoofnaa

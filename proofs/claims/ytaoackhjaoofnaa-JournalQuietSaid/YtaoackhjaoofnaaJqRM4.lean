/- Rounds of the law's loop by the evaluator, in the kernel: every way from a loop's head comes to the next head's state, or ends and answers true. No conditions. -/
import Derived.Test.YtaoackhjaoofnaaJqS
import Derived.KernelRfl
namespace Go.Proofs.Ytaoackhjaoofnaa
open Go.VM
set_option maxRecDepth 1000000 in
set_option maxHeartbeats 40000000 in
theorem j4 : (@stopsF Try.prog hookM 3 isTrue 500000 s4).map (List.map (@nextW Try.prog hookM (wsOf 4) dsL (ksOf 4) ts)) = some (List.replicate 120 s5) := by kernel_rfl
set_option maxRecDepth 1000000 in
set_option maxHeartbeats 40000000 in
theorem j15 : (@stopsF Try.prog hookM 3 isTrue 500000 s15).map (List.map (@nextW Try.prog hookM (wsOf 15) dsL (ksOf 15) ts)) = some (List.replicate 120 s16) := by kernel_rfl
set_option maxRecDepth 1000000 in
set_option maxHeartbeats 40000000 in
theorem j26 : (@stopsF Try.prog hookM 3 isTrue 500000 s26).map (List.map (@nextW Try.prog hookM (wsOf 26) dsL (ksOf 26) ts)) = some (List.replicate 120 s27) := by kernel_rfl
end Go.Proofs.Ytaoackhjaoofnaa

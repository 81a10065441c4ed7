/- Rounds of the law's loop by the evaluator, in the kernel: every way from a loop's head comes to the next head's state, or ends and answers true. No conditions. -/
import Derived.Test.YtaoackhjaoofnaaJqS
import Derived.KernelRfl
namespace Go.Proofs.Ytaoackhjaoofnaa
open Go.VM
set_option maxRecDepth 1000000 in
set_option maxHeartbeats 40000000 in
theorem j1 : (@stopsF Try.prog hookM 3 isTrue 500000 s1).map (List.map (@nextW Try.prog hookM (wsOf 1) dsL (ksOf 1) ts)) = some (List.replicate 120 s2) := by kernel_rfl
set_option maxRecDepth 1000000 in
set_option maxHeartbeats 40000000 in
theorem j12 : (@stopsF Try.prog hookM 3 isTrue 500000 s12).map (List.map (@nextW Try.prog hookM (wsOf 12) dsL (ksOf 12) ts)) = some (List.replicate 120 s13) := by kernel_rfl
set_option maxRecDepth 1000000 in
set_option maxHeartbeats 40000000 in
theorem j23 : (@stopsF Try.prog hookM 3 isTrue 500000 s23).map (List.map (@nextW Try.prog hookM (wsOf 23) dsL (ksOf 23) ts)) = some (List.replicate 120 s24) := by kernel_rfl
end Go.Proofs.Ytaoackhjaoofnaa

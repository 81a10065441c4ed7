/- Rounds of the law's loop by the evaluator, in the kernel: every way from a loop's head comes to the next head's state, or ends and answers true. No conditions. -/
import Derived.Test.YtaoackhjaoofnaaJqS
import Derived.KernelRfl
namespace Go.Proofs.Ytaoackhjaoofnaa
open Go.VM
set_option maxRecDepth 1000000 in
set_option maxHeartbeats 40000000 in
theorem j0 : (@stopsF Try.prog hookM 3 isTrue 500000 s0).map (List.map (@nextW Try.prog hookM (wsOf 0) dsL (ksOf 0) ts)) = some (List.replicate 60 s1) := by kernel_rfl
set_option maxRecDepth 1000000 in
set_option maxHeartbeats 40000000 in
theorem j11 : (@stopsF Try.prog hookM 3 isTrue 500000 s11).map (List.map (@nextW Try.prog hookM (wsOf 11) dsL (ksOf 11) ts)) = some (List.replicate 120 s12) := by kernel_rfl
set_option maxRecDepth 1000000 in
set_option maxHeartbeats 40000000 in
theorem j22 : (@stopsF Try.prog hookM 3 isTrue 500000 s22).map (List.map (@nextW Try.prog hookM (wsOf 22) dsL (ksOf 22) ts)) = some (List.replicate 120 s23) := by kernel_rfl
end Go.Proofs.Ytaoackhjaoofnaa

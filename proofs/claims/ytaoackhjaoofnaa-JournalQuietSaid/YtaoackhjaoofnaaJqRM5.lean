/- Rounds of the law's loop by the evaluator, in the kernel: every way from a loop's head comes to the next head's state, or ends and answers true. No conditions. -/
import Derived.Test.YtaoackhjaoofnaaJqS
import Derived.KernelRfl
namespace Go.Proofs.Ytaoackhjaoofnaa
open Go.VM
set_option maxRecDepth 1000000 in
set_option maxHeartbeats 40000000 in
theorem j5 : (@stopsF Try.prog hookM 3 isTrue 500000 s5).map (List.map (@nextW Try.prog hookM (wsOf 5) dsL (ksOf 5) ts)) = some (List.replicate 120 s6) := by kernel_rfl
set_option maxRecDepth 1000000 in
set_option maxHeartbeats 40000000 in
theorem j16 : (@stopsF Try.prog hookM 3 isTrue 500000 s16).map (List.map (@nextW Try.prog hookM (wsOf 16) dsL (ksOf 16) ts)) = some (List.replicate 120 s17) := by kernel_rfl
set_option maxRecDepth 1000000 in
set_option maxHeartbeats 40000000 in
theorem j27 : (@stopsF Try.prog hookM 3 isTrue 500000 s27).map (List.map (@nextW Try.prog hookM (wsOf 27) dsL (ksOf 27) ts)) = some (List.replicate 120 s28) := by kernel_rfl
end Go.Proofs.Ytaoackhjaoofnaa

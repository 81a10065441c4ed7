/- Rounds of the law's loop by the evaluator, in the kernel: every way from a loop's head comes to the next head's state, or ends and answers true. No conditions. -/
import Derived.Test.YtaoackhjaoofnaaJqS
import Derived.KernelRfl
namespace Go.Proofs.Ytaoackhjaoofnaa
open Go.VM
set_option maxRecDepth 1000000 in
set_option maxHeartbeats 40000000 in
theorem j2 : (@stopsF Try.prog hookM 3 isTrue 500000 s2).map (List.map (@nextW Try.prog hookM (wsOf 2) dsL (ksOf 2) ts)) = some (List.replicate 120 s3) := by kernel_rfl
set_option maxRecDepth 1000000 in
set_option maxHeartbeats 40000000 in
theorem j13 : (@stopsF Try.prog hookM 3 isTrue 500000 s13).map (List.map (@nextW Try.prog hookM (wsOf 13) dsL (ksOf 13) ts)) = some (List.replicate 120 s14) := by kernel_rfl
set_option maxRecDepth 1000000 in
set_option maxHeartbeats 40000000 in
theorem j24 : (@stopsF Try.prog hookM 3 isTrue 500000 s24).map (List.map (@nextW Try.prog hookM (wsOf 24) dsL (ksOf 24) ts)) = some (List.replicate 120 s25) := by kernel_rfl
end Go.Proofs.Ytaoackhjaoofnaa

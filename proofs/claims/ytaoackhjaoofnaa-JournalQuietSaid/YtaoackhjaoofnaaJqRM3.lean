/- Rounds of the law's loop by the evaluator, in the kernel: every way from a loop's head comes to the next head's state, or ends and answers true. No conditions. -/
import Derived.Test.YtaoackhjaoofnaaJqS
import Derived.KernelRfl
namespace Go.Proofs.Ytaoackhjaoofnaa
open Go.VM
set_option maxRecDepth 1000000 in
set_option maxHeartbeats 40000000 in
theorem j3 : (@stopsF Try.prog hookM 3 isTrue 500000 s3).map (List.map (@nextW Try.prog hookM (wsOf 3) dsL (ksOf 3) ts)) = some (List.replicate 120 s4) := by kernel_rfl
set_option maxRecDepth 1000000 in
set_option maxHeartbeats 40000000 in
theorem j14 : (@stopsF Try.prog hookM 3 isTrue 500000 s14).map (List.map (@nextW Try.prog hookM (wsOf 14) dsL (ksOf 14) ts)) = some (List.replicate 120 s15) := by kernel_rfl
set_option maxRecDepth 1000000 in
set_option maxHeartbeats 40000000 in
theorem j25 : (@stopsF Try.prog hookM 3 isTrue 500000 s25).map (List.map (@nextW Try.prog hookM (wsOf 25) dsL (ksOf 25) ts)) = some (List.replicate 120 s26) := by kernel_rfl
end Go.Proofs.Ytaoackhjaoofnaa

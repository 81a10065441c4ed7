/- Rounds of the law's loop by the evaluator, in the kernel: every way from a loop's head comes to the next head's state, or ends and answers true. No conditions. -/
import Derived.Test.YtaoackhjaoofnaaJqS
import Derived.KernelRfl
namespace Go.Proofs.Ytaoackhjaoofnaa
open Go.VM
set_option maxRecDepth 1000000 in
set_option maxHeartbeats 40000000 in
theorem j8 : (@stopsF Try.prog hookM 3 isTrue 500000 s8).map (List.map (@nextW Try.prog hookM (wsOf 8) dsL (ksOf 8) ts)) = some (List.replicate 120 s9) := by kernel_rfl
set_option maxRecDepth 1000000 in
set_option maxHeartbeats 40000000 in
theorem j19 : (@stopsF Try.prog hookM 3 isTrue 500000 s19).map (List.map (@nextW Try.prog hookM (wsOf 19) dsL (ksOf 19) ts)) = some (List.replicate 120 s20) := by kernel_rfl
set_option maxRecDepth 1000000 in
theorem last : @runF Try.prog hookM isTrue 500000 s30 = true := by decide +kernel
end Go.Proofs.Ytaoackhjaoofnaa

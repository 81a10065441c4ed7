/- Rounds of the law's loop by the evaluator, in the kernel: every way from a loop's head comes to the next head's state, or ends and answers true. No conditions. -/
import Derived.Test.YtaoackhjaoofnaaJqS
import Derived.KernelRfl
namespace Go.Proofs.Ytaoackhjaoofnaa
open Go.VM
set_option maxRecDepth 1000000 in
set_option maxHeartbeats 40000000 in
theorem j9 : (@stopsF Try.prog hookM 3 isTrue 500000 s9).map (List.map (@nextW Try.prog hookM (wsOf 9) dsL (ksOf 9) ts)) = some (List.replicate 120 s10) := by kernel_rfl
set_option maxRecDepth 1000000 in
set_option maxHeartbeats 40000000 in
theorem j20 : (@stopsF Try.prog hookM 3 isTrue 500000 s20).map (List.map (@nextW Try.prog hookM (wsOf 20) dsL (ksOf 20) ts)) = some (List.replicate 120 s21) := by kernel_rfl
set_option maxRecDepth 1000000 in
theorem run_nil : @runF Try.prog hookM isTrue 500000 (startSt Try.prog laidL 3 [.nilSlice]) = true := by decide +kernel
end Go.Proofs.Ytaoackhjaoofnaa

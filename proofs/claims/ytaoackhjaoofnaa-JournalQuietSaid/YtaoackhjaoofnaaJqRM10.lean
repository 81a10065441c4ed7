/- Rounds of the law's loop by the evaluator, in the kernel: every way from a loop's head comes to the next head's state, or ends and answers true. No conditions. -/
import Derived.Test.YtaoackhjaoofnaaJqS
import Derived.KernelRfl
namespace Go.Proofs.Ytaoackhjaoofnaa
open Go.VM
set_option maxRecDepth 1000000 in
set_option maxHeartbeats 40000000 in
theorem j10 : (@stopsF Try.prog hookM 3 isTrue 500000 s10).map (List.map (@nextW Try.prog hookM (wsOf 10) dsL (ksOf 10) ts)) = some (List.replicate 120 s11) := by kernel_rfl
set_option maxRecDepth 1000000 in
set_option maxHeartbeats 40000000 in
theorem j21 : (@stopsF Try.prog hookM 3 isTrue 500000 s21).map (List.map (@nextW Try.prog hookM (wsOf 21) dsL (ksOf 21) ts)) = some (List.replicate 120 s22) := by kernel_rfl
set_option maxRecDepth 1000000 in
theorem run_emp : @runF Try.prog hookM isTrue 500000 (startSt Try.prog laidL 3 [.emptyS]) = true := by decide +kernel
end Go.Proofs.Ytaoackhjaoofnaa

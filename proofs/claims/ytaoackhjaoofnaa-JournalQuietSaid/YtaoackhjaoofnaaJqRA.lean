/- The run of the law's 'awake' by the evaluator, in the kernel: it answers true in every order. No conditions. -/
import Derived.Test.YtaoackhjaoofnaaJqH
namespace Go.Proofs.Ytaoackhjaoofnaa
open Go.VM
set_option maxRecDepth 1000000 in
theorem awake_run : @runF Try.prog hookA isTrue 500000 (startSt Try.prog laidL 4 []) = true := by decide +kernel
end Go.Proofs.Ytaoackhjaoofnaa

/- Rows of a table of answers: runs by the evaluator, in the kernel. No conditions. -/
import Derived.Test.YtaoackhjaoofnaaJqH
namespace Go.Proofs.Ytaoackhjaoofnaa
open Go.VM
set_option maxRecDepth 1000000 in
theorem br0_ok : @rowRun hook0 Try.prog laidL 11 key0 br0 = true := by decide +kernel
set_option maxRecDepth 1000000 in
theorem br1_ok : @rowRun hook0 Try.prog laidL 11 key0 br1 = true := by decide +kernel
set_option maxRecDepth 1000000 in
theorem br2_ok : @rowRun hook0 Try.prog laidL 11 key0 br2 = true := by decide +kernel
set_option maxRecDepth 1000000 in
theorem br3_ok : @rowRun hook0 Try.prog laidL 11 key0 br3 = true := by decide +kernel
set_option maxRecDepth 1000000 in
theorem br4_ok : @rowRun hook0 Try.prog laidL 11 key0 br4 = true := by decide +kernel
set_option maxRecDepth 1000000 in
theorem br5_ok : @rowRun hook0 Try.prog laidL 11 key0 br5 = true := by decide +kernel
end Go.Proofs.Ytaoackhjaoofnaa

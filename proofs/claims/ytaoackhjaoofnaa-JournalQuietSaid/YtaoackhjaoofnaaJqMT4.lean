/- Rows of a table of answers: runs by the evaluator, in the kernel. No conditions. -/
import Derived.Test.YtaoackhjaoofnaaJqH
namespace Go.Proofs.Ytaoackhjaoofnaa
open Go.VM
set_option maxRecDepth 1000000 in
theorem br24_ok : @rowRun hook0 Try.prog laidL 11 key0 br24 = true := by decide +kernel
set_option maxRecDepth 1000000 in
theorem br25_ok : @rowRun hook0 Try.prog laidL 11 key0 br25 = true := by decide +kernel
set_option maxRecDepth 1000000 in
theorem br26_ok : @rowRun hook0 Try.prog laidL 11 key0 br26 = true := by decide +kernel
set_option maxRecDepth 1000000 in
theorem br27_ok : @rowRun hook0 Try.prog laidL 11 key0 br27 = true := by decide +kernel
set_option maxRecDepth 1000000 in
theorem br28_ok : @rowRun hook0 Try.prog laidL 11 key0 br28 = true := by decide +kernel
set_option maxRecDepth 1000000 in
theorem br29_ok : @rowRun hook0 Try.prog laidL 11 key0 br29 = true := by decide +kernel
end Go.Proofs.Ytaoackhjaoofnaa

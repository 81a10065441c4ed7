/- Rows of a table of answers: runs by the evaluator, in the kernel. No conditions. -/
import Derived.Test.YtaoackhjaoofnaaJqH
namespace Go.Proofs.Ytaoackhjaoofnaa
open Go.VM
set_option maxRecDepth 1000000 in
theorem br12_ok : @rowRun hook0 Try.prog laidL 11 key0 br12 = true := by decide +kernel
set_option maxRecDepth 1000000 in
theorem br13_ok : @rowRun hook0 Try.prog laidL 11 key0 br13 = true := by decide +kernel
set_option maxRecDepth 1000000 in
theorem br14_ok : @rowRun hook0 Try.prog laidL 11 key0 br14 = true := by decide +kernel
set_option maxRecDepth 1000000 in
theorem br15_ok : @rowRun hook0 Try.prog laidL 11 key0 br15 = true := by decide +kernel
set_option maxRecDepth 1000000 in
theorem br16_ok : @rowRun hook0 Try.prog laidL 11 key0 br16 = true := by decide +kernel
set_option maxRecDepth 1000000 in
theorem br17_ok : @rowRun hook0 Try.prog laidL 11 key0 br17 = true := by decide +kernel
end Go.Proofs.Ytaoackhjaoofnaa

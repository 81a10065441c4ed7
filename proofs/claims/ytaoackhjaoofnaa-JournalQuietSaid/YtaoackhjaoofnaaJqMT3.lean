/- Rows of a table of answers: runs by the evaluator, in the kernel. No conditions. -/
import Derived.Test.YtaoackhjaoofnaaJqH
namespace Go.Proofs.Ytaoackhjaoofnaa
open Go.VM
set_option maxRecDepth 1000000 in
theorem br18_ok : @rowRun hook0 Try.prog laidL 11 key0 br18 = true := by decide +kernel
set_option maxRecDepth 1000000 in
theorem br19_ok : @rowRun hook0 Try.prog laidL 11 key0 br19 = true := by decide +kernel
set_option maxRecDepth 1000000 in
theorem br20_ok : @rowRun hook0 Try.prog laidL 11 key0 br20 = true := by decide +kernel
set_option maxRecDepth 1000000 in
theorem br21_ok : @rowRun hook0 Try.prog laidL 11 key0 br21 = true := by decide +kernel
set_option maxRecDepth 1000000 in
theorem br22_ok : @rowRun hook0 Try.prog laidL 11 key0 br22 = true := by decide +kernel
set_option maxRecDepth 1000000 in
theorem br23_ok : @rowRun hook0 Try.prog laidL 11 key0 br23 = true := by decide +kernel
end Go.Proofs.Ytaoackhjaoofnaa

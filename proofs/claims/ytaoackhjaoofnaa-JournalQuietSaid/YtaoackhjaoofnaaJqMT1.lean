/- Rows of a table of answers: runs by the evaluator, in the kernel. No conditions. -/
import Derived.Test.YtaoackhjaoofnaaJqH
namespace Go.Proofs.Ytaoackhjaoofnaa
open Go.VM
set_option maxRecDepth 1000000 in
theorem br6_ok : @rowRun hook0 Try.prog laidL 11 key0 br6 = true := by decide +kernel
set_option maxRecDepth 1000000 in
theorem br7_ok : @rowRun hook0 Try.prog laidL 11 key0 br7 = true := by decide +kernel
set_option maxRecDepth 1000000 in
theorem br8_ok : @rowRun hook0 Try.prog laidL 11 key0 br8 = true := by decide +kernel
set_option maxRecDepth 1000000 in
theorem br9_ok : @rowRun hook0 Try.prog laidL 11 key0 br9 = true := by decide +kernel
set_option maxRecDepth 1000000 in
theorem br10_ok : @rowRun hook0 Try.prog laidL 11 key0 br10 = true := by decide +kernel
set_option maxRecDepth 1000000 in
theorem br11_ok : @rowRun hook0 Try.prog laidL 11 key0 br11 = true := by decide +kernel
end Go.Proofs.Ytaoackhjaoofnaa

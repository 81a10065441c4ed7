/- Rows of a table of answers: runs by the evaluator, in the kernel. No conditions. -/
import Derived.Test.YtjcdcdhddpmgiaaJfH
namespace Go.Proofs.Ytjcdcdhddpmgiaa
open Go.VM
set_option maxRecDepth 1000000 in
theorem br8_ok : @rowRun hook0 Try.prog laidL 8 key0 br8 = true := by decide +kernel
set_option maxRecDepth 1000000 in
theorem br9_ok : @rowRun hook0 Try.prog laidL 8 key0 br9 = true := by decide +kernel
set_option maxRecDepth 1000000 in
theorem br10_ok : @rowRun hook0 Try.prog laidL 8 key0 br10 = true := by decide +kernel
set_option maxRecDepth 1000000 in
theorem br11_ok : @rowRun hook0 Try.prog laidL 8 key0 br11 = true := by decide +kernel
set_option maxRecDepth 1000000 in
theorem br12_ok : @rowRun hook0 Try.prog laidL 8 key0 br12 = true := by decide +kernel
set_option maxRecDepth 1000000 in
theorem br13_ok : @rowRun hook0 Try.prog laidL 8 key0 br13 = true := by decide +kernel
set_option maxRecDepth 1000000 in
theorem br14_ok : @rowRun hook0 Try.prog laidL 8 key0 br14 = true := by decide +kernel
set_option maxRecDepth 1000000 in
theorem br15_ok : @rowRun hook0 Try.prog laidL 8 key0 br15 = true := by decide +kernel
end Go.Proofs.Ytjcdcdhddpmgiaa

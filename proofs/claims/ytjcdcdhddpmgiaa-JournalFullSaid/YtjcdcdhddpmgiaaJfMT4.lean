/- Rows of a table of answers: runs by the evaluator, in the kernel. No conditions. -/
import Derived.Test.YtjcdcdhddpmgiaaJfH
namespace Go.Proofs.Ytjcdcdhddpmgiaa
open Go.VM
set_option maxRecDepth 1000000 in
theorem br32_ok : @rowRun hook0 Try.prog laidL 8 key0 br32 = true := by decide +kernel
set_option maxRecDepth 1000000 in
theorem br33_ok : @rowRun hook0 Try.prog laidL 8 key0 br33 = true := by decide +kernel
set_option maxRecDepth 1000000 in
theorem br34_ok : @rowRun hook0 Try.prog laidL 8 key0 br34 = true := by decide +kernel
set_option maxRecDepth 1000000 in
theorem br35_ok : @rowRun hook0 Try.prog laidL 8 key0 br35 = true := by decide +kernel
set_option maxRecDepth 1000000 in
theorem br36_ok : @rowRun hook0 Try.prog laidL 8 key0 br36 = true := by decide +kernel
set_option maxRecDepth 1000000 in
theorem br37_ok : @rowRun hook0 Try.prog laidL 8 key0 br37 = true := by decide +kernel
set_option maxRecDepth 1000000 in
theorem br38_ok : @rowRun hook0 Try.prog laidL 8 key0 br38 = true := by decide +kernel
set_option maxRecDepth 1000000 in
theorem br39_ok : @rowRun hook0 Try.prog laidL 8 key0 br39 = true := by decide +kernel
end Go.Proofs.Ytjcdcdhddpmgiaa

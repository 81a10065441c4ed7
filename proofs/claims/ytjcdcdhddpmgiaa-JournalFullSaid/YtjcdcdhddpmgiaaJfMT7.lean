/- Rows of a table of answers: runs by the evaluator, in the kernel. No conditions. -/
import Derived.Test.YtjcdcdhddpmgiaaJfH
namespace Go.Proofs.Ytjcdcdhddpmgiaa
open Go.VM
set_option maxRecDepth 1000000 in
theorem br56_ok : @rowRun hook0 Try.prog laidL 8 key0 br56 = true := by decide +kernel
set_option maxRecDepth 1000000 in
theorem br57_ok : @rowRun hook0 Try.prog laidL 8 key0 br57 = true := by decide +kernel
set_option maxRecDepth 1000000 in
theorem br58_ok : @rowRun hook0 Try.prog laidL 8 key0 br58 = true := by decide +kernel
set_option maxRecDepth 1000000 in
theorem br59_ok : @rowRun hook0 Try.prog laidL 8 key0 br59 = true := by decide +kernel
set_option maxRecDepth 1000000 in
theorem br60_ok : @rowRun hook0 Try.prog laidL 8 key0 br60 = true := by decide +kernel
set_option maxRecDepth 1000000 in
theorem br61_ok : @rowRun hook0 Try.prog laidL 8 key0 br61 = true := by decide +kernel
set_option maxRecDepth 1000000 in
theorem br62_ok : @rowRun hook0 Try.prog laidL 8 key0 br62 = true := by decide +kernel
set_option maxRecDepth 1000000 in
theorem br63_ok : @rowRun hook0 Try.prog laidL 8 key0 br63 = true := by decide +kernel
end Go.Proofs.Ytjcdcdhddpmgiaa

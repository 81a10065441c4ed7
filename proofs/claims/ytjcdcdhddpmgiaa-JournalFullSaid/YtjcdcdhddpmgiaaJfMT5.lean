/- Rows of a table of answers: runs by the evaluator, in the kernel. No conditions. -/
import Derived.Test.YtjcdcdhddpmgiaaJfH
namespace Go.Proofs.Ytjcdcdhddpmgiaa
open Go.VM
set_option maxRecDepth 1000000 in
theorem br40_ok : @rowRun hook0 Try.prog laidL 8 key0 br40 = true := by decide +kernel
set_option maxRecDepth 1000000 in
theorem br41_ok : @rowRun hook0 Try.prog laidL 8 key0 br41 = true := by decide +kernel
set_option maxRecDepth 1000000 in
theorem br42_ok : @rowRun hook0 Try.prog laidL 8 key0 br42 = true := by decide +kernel
set_option maxRecDepth 1000000 in
theorem br43_ok : @rowRun hook0 Try.prog laidL 8 key0 br43 = true := by decide +kernel
set_option maxRecDepth 1000000 in
theorem br44_ok : @rowRun hook0 Try.prog laidL 8 key0 br44 = true := by decide +kernel
set_option maxRecDepth 1000000 in
theorem br45_ok : @rowRun hook0 Try.prog laidL 8 key0 br45 = true := by decide +kernel
set_option maxRecDepth 1000000 in
theorem br46_ok : @rowRun hook0 Try.prog laidL 8 key0 br46 = true := by decide +kernel
set_option maxRecDepth 1000000 in
theorem br47_ok : @rowRun hook0 Try.prog laidL 8 key0 br47 = true := by decide +kernel
end Go.Proofs.Ytjcdcdhddpmgiaa

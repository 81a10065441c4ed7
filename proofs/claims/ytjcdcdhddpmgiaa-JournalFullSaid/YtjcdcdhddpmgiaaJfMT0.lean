/- Rows of a table of answers: runs by the evaluator, in the kernel. No conditions. -/
import Derived.Test.YtjcdcdhddpmgiaaJfH
namespace Go.Proofs.Ytjcdcdhddpmgiaa
open Go.VM
set_option maxRecDepth 1000000 in
theorem br0_ok : @rowRun hook0 Try.prog laidL 8 key0 br0 = true := by decide +kernel
set_option maxRecDepth 1000000 in
theorem br1_ok : @rowRun hook0 Try.prog laidL 8 key0 br1 = true := by decide +kernel
set_option maxRecDepth 1000000 in
theorem br2_ok : @rowRun hook0 Try.prog laidL 8 key0 br2 = true := by decide +kernel
set_option maxRecDepth 1000000 in
theorem br3_ok : @rowRun hook0 Try.prog laidL 8 key0 br3 = true := by decide +kernel
set_option maxRecDepth 1000000 in
theorem br4_ok : @rowRun hook0 Try.prog laidL 8 key0 br4 = true := by decide +kernel
set_option maxRecDepth 1000000 in
theorem br5_ok : @rowRun hook0 Try.prog laidL 8 key0 br5 = true := by decide +kernel
set_option maxRecDepth 1000000 in
theorem br6_ok : @rowRun hook0 Try.prog laidL 8 key0 br6 = true := by decide +kernel
set_option maxRecDepth 1000000 in
theorem br7_ok : @rowRun hook0 Try.prog laidL 8 key0 br7 = true := by decide +kernel
set_option maxRecDepth 1000000 in
theorem zero_ok : @rowRun hook0 Try.prog laidL 15 key0 zeroRow = true := by decide +kernel
end Go.Proofs.Ytjcdcdhddpmgiaa

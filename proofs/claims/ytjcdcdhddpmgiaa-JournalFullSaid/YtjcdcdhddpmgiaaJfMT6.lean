/- Rows of a table of answers: runs by the evaluator, in the kernel. No conditions. -/
import Derived.Test.YtjcdcdhddpmgiaaJfH
namespace Go.Proofs.Ytjcdcdhddpmgiaa
open Go.VM
set_option maxRecDepth 1000000 in
theorem br48_ok : @rowRun hook0 Try.prog laidL 8 key0 br48 = true := by decide +kernel
set_option maxRecDepth 1000000 in
theorem br49_ok : @rowRun hook0 Try.prog laidL 8 key0 br49 = true := by decide +kernel
set_option maxRecDepth 1000000 in
theorem br50_ok : @rowRun hook0 Try.prog laidL 8 key0 br50 = true := by decide +kernel
set_option maxRecDepth 1000000 in
theorem br51_ok : @rowRun hook0 Try.prog laidL 8 key0 br51 = true := by decide +kernel
set_option maxRecDepth 1000000 in
theorem br52_ok : @rowRun hook0 Try.prog laidL 8 key0 br52 = true := by decide +kernel
set_option maxRecDepth 1000000 in
theorem br53_ok : @rowRun hook0 Try.prog laidL 8 key0 br53 = true := by decide +kernel
set_option maxRecDepth 1000000 in
theorem br54_ok : @rowRun hook0 Try.prog laidL 8 key0 br54 = true := by decide +kernel
set_option maxRecDepth 1000000 in
theorem br55_ok : @rowRun hook0 Try.prog laidL 8 key0 br55 = true := by decide +kernel
end Go.Proofs.Ytjcdcdhddpmgiaa

/- Runs of the law by the evaluator, in the kernel, its 'awake' taken by its contract, its arguments as symbols: it answers true in every order. No conditions. -/
import Derived.Test.YtjcdcdhddpmgiaaJfH
namespace Go.Proofs.Ytjcdcdhddpmgiaa
open Go.VM
set_option maxRecDepth 1000000 in
theorem run_66 : @runF Try.prog hookM isTrue 500000 (startStG Try.prog laidL 3 argsL (syms 66 68) (keyN 4096)) = true := by decide +kernel
set_option maxRecDepth 1000000 in
theorem run_44 : @runF Try.prog hookM isTrue 500000 (startStG Try.prog laidL 3 argsL (syms 44 46) (keyN 4096)) = true := by decide +kernel
end Go.Proofs.Ytjcdcdhddpmgiaa

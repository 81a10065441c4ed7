/- Runs of the law by the evaluator, in the kernel, its 'awake' taken by its contract: it answers true in every order. No conditions. -/
import Derived.Test.YtocphdopmdiciaaGreatDoorTkH
namespace Go.Proofs.YtocphdopmdiciaaGreatDoor
open Go.VM
set_option maxRecDepth 1000000 in
theorem main_run : @runF Tryz.prog hookM isTrue 500000 (startSt Tryz.prog laidL 3 []) = true := by decide +kernel
end Go.Proofs.YtocphdopmdiciaaGreatDoor

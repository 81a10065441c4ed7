/- The run of the law by the evaluator, in the kernel, its 'awake' taken by its contract: it answers true in every order. No conditions. -/
import Derived.Test.YtokndgaghbjgfaaGreatDoorH
namespace Go.Proofs.YtokndgaghbjgfaaGreatDoor
open Go.VM
set_option maxRecDepth 1000000 in
theorem main_run : @runAll Tryz.prog hookM isTrue 500000 (startSt Tryz.prog laidL 3 []) = true := by decide +kernel
end Go.Proofs.YtokndgaghbjgfaaGreatDoor

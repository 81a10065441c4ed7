/- Runs of the law by the evaluator, in the kernel, its 'awake' taken by its contract: it answers true in every order. No conditions. -/
import Derived.Test.YtkihpkcfneeelaaGreatDoorDiH
namespace Go.Proofs.YtkihpkcfneeelaaGreatDoor
open Go.VM
set_option maxRecDepth 1000000 in
theorem main_run_1 : @runF Tryz.prog hookM isTrue 500000 (startSt Tryz.prog laidL 5 [.red .i64 true 7 1]) = true := by decide +kernel
set_option maxRecDepth 1000000 in
theorem main_run_5 : @runF Tryz.prog hookM isTrue 500000 (startSt Tryz.prog laidL 5 [.red .i64 true 7 5]) = true := by decide +kernel
end Go.Proofs.YtkihpkcfneeelaaGreatDoor

/- Runs of the law by the evaluator, in the kernel, its 'awake' taken by its contract: it answers true in every order. No conditions. -/
import Derived.Test.YtdkbfimccddikaaGreatDoorTmH
namespace Go.Proofs.YtdkbfimccddikaaGreatDoor
open Go.VM
set_option maxRecDepth 1000000 in
theorem main_run_1 : @runF Tryz.prog hookM isTrue 500000 (startStS Tryz.prog laidL 6 [.reds .i64 true 511 keyI] [(keyI, dom1)] (keyN 64)) = true := by decide +kernel
set_option maxRecDepth 1000000 in
theorem main_run_3 : @runF Tryz.prog hookM isTrue 500000 (startStS Tryz.prog laidL 6 [.reds .i64 true 511 keyI] [(keyI, dom3)] (keyN 64)) = true := by decide +kernel
set_option maxRecDepth 1000000 in
theorem main_run_5 : @runF Tryz.prog hookM isTrue 500000 (startStS Tryz.prog laidL 6 [.reds .i64 true 511 keyI] [(keyI, dom5)] (keyN 64)) = true := by decide +kernel
end Go.Proofs.YtdkbfimccddikaaGreatDoor

/- Runs of the law by the evaluator, in the kernel, its 'awake' taken by its contract: it answers true in every order. No conditions. -/
import Derived.Test.YtdkbfimccddikaaGreatDoorTdH
namespace Go.Proofs.YtdkbfimccddikaaGreatDoor
open Go.VM
set_option maxRecDepth 1000000 in
theorem main_run_1 : @runF Tryz.prog hookM isTrue 500000 (startSt Tryz.prog laidL 4 [.red .i64 true 7 1]) = true := by decide +kernel
set_option maxRecDepth 1000000 in
theorem main_run_3 : @runF Tryz.prog hookM isTrue 500000 (startSt Tryz.prog laidL 4 [.red .i64 true 7 3]) = true := by decide +kernel
set_option maxRecDepth 1000000 in
theorem main_run_5 : @runF Tryz.prog hookM isTrue 500000 (startSt Tryz.prog laidL 4 [.red .i64 true 7 5]) = true := by decide +kernel
set_option maxRecDepth 1000000 in
theorem main_run_7 : @runF Tryz.prog hookM isTrue 500000 (startSt Tryz.prog laidL 4 [.red .i64 true 7 7]) = true := by decide +kernel
end Go.Proofs.YtdkbfimccddikaaGreatDoor

/- Runs of the law by the evaluator, in the kernel, its 'awake' taken by its contract: it answers true in every order. No conditions. -/
import Derived.Test.YtdkbfimccddikaaGreatDoorTdH
namespace Go.Proofs.YtdkbfimccddikaaGreatDoor
open Go.VM
set_option maxRecDepth 1000000 in
theorem main_run_0 : @runF Tryz.prog hookM isTrue 500000 (startSt Tryz.prog laidL 4 [.red .i64 true 7 0]) = true := by decide +kernel
set_option maxRecDepth 1000000 in
theorem main_run_2 : @runF Tryz.prog hookM isTrue 500000 (startSt Tryz.prog laidL 4 [.red .i64 true 7 2]) = true := by decide +kernel
set_option maxRecDepth 1000000 in
theorem main_run_4 : @runF Tryz.prog hookM isTrue 500000 (startSt Tryz.prog laidL 4 [.red .i64 true 7 4]) = true := by decide +kernel
set_option maxRecDepth 1000000 in
theorem main_run_6 : @runF Tryz.prog hookM isTrue 500000 (startSt Tryz.prog laidL 4 [.red .i64 true 7 6]) = true := by decide +kernel
end Go.Proofs.YtdkbfimccddikaaGreatDoor

/- Runs of the law by the evaluator, in the kernel, its 'awake' taken by its contract: it answers true in every order. No conditions. -/
import Derived.Test.YtdkbfimccddikaaGreatDoorTlH
namespace Go.Proofs.YtdkbfimccddikaaGreatDoor
open Go.VM
set_option maxRecDepth 1000000 in
theorem main_run_0 : @runF Tryz.prog hookM isTrue 500000 (startSt Tryz.prog laidL 3 [.red .i64 true 15 0]) = true := by decide +kernel
set_option maxRecDepth 1000000 in
theorem main_run_2 : @runF Tryz.prog hookM isTrue 500000 (startSt Tryz.prog laidL 3 [.red .i64 true 15 2]) = true := by decide +kernel
set_option maxRecDepth 1000000 in
theorem main_run_4 : @runF Tryz.prog hookM isTrue 500000 (startSt Tryz.prog laidL 3 [.red .i64 true 15 4]) = true := by decide +kernel
set_option maxRecDepth 1000000 in
theorem main_run_6 : @runF Tryz.prog hookM isTrue 500000 (startSt Tryz.prog laidL 3 [.red .i64 true 15 6]) = true := by decide +kernel
set_option maxRecDepth 1000000 in
theorem main_run_8 : @runF Tryz.prog hookM isTrue 500000 (startSt Tryz.prog laidL 3 [.red .i64 true 15 8]) = true := by decide +kernel
set_option maxRecDepth 1000000 in
theorem main_run_10 : @runF Tryz.prog hookM isTrue 500000 (startSt Tryz.prog laidL 3 [.red .i64 true 15 10]) = true := by decide +kernel
set_option maxRecDepth 1000000 in
theorem main_run_12 : @runF Tryz.prog hookM isTrue 500000 (startSt Tryz.prog laidL 3 [.red .i64 true 15 12]) = true := by decide +kernel
set_option maxRecDepth 1000000 in
theorem main_run_14 : @runF Tryz.prog hookM isTrue 500000 (startSt Tryz.prog laidL 3 [.red .i64 true 15 14]) = true := by decide +kernel
end Go.Proofs.YtdkbfimccddikaaGreatDoor

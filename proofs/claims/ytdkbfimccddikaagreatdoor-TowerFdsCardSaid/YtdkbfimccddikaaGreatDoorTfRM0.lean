/- Runs of the law by the evaluator, in the kernel, its 'awake' taken by its contract: it answers true in every order. No conditions. -/
import Derived.Test.YtdkbfimccddikaaGreatDoorTfH
namespace Go.Proofs.YtdkbfimccddikaaGreatDoor
open Go.VM
set_option maxRecDepth 1000000 in
theorem main_run_0_0 : @runF Tryz.prog hookM isTrue 500000 (startSt Tryz.prog laidL 5 [.red .i64 false 3 0, .red .i64 true 15 0]) = true := by decide +kernel
set_option maxRecDepth 1000000 in
theorem main_run_0_2 : @runF Tryz.prog hookM isTrue 500000 (startSt Tryz.prog laidL 5 [.red .i64 false 3 0, .red .i64 true 15 2]) = true := by decide +kernel
set_option maxRecDepth 1000000 in
theorem main_run_0_4 : @runF Tryz.prog hookM isTrue 500000 (startSt Tryz.prog laidL 5 [.red .i64 false 3 0, .red .i64 true 15 4]) = true := by decide +kernel
set_option maxRecDepth 1000000 in
theorem main_run_0_6 : @runF Tryz.prog hookM isTrue 500000 (startSt Tryz.prog laidL 5 [.red .i64 false 3 0, .red .i64 true 15 6]) = true := by decide +kernel
set_option maxRecDepth 1000000 in
theorem main_run_0_8 : @runF Tryz.prog hookM isTrue 500000 (startSt Tryz.prog laidL 5 [.red .i64 false 3 0, .red .i64 true 15 8]) = true := by decide +kernel
set_option maxRecDepth 1000000 in
theorem main_run_0_10 : @runF Tryz.prog hookM isTrue 500000 (startSt Tryz.prog laidL 5 [.red .i64 false 3 0, .red .i64 true 15 10]) = true := by decide +kernel
set_option maxRecDepth 1000000 in
theorem main_run_0_12 : @runF Tryz.prog hookM isTrue 500000 (startSt Tryz.prog laidL 5 [.red .i64 false 3 0, .red .i64 true 15 12]) = true := by decide +kernel
set_option maxRecDepth 1000000 in
theorem main_run_0_14 : @runF Tryz.prog hookM isTrue 500000 (startSt Tryz.prog laidL 5 [.red .i64 false 3 0, .red .i64 true 15 14]) = true := by decide +kernel
set_option maxRecDepth 1000000 in
theorem main_run_1_0 : @runF Tryz.prog hookM isTrue 500000 (startSt Tryz.prog laidL 5 [.red .i64 false 3 1, .red .i64 true 15 0]) = true := by decide +kernel
set_option maxRecDepth 1000000 in
theorem main_run_1_2 : @runF Tryz.prog hookM isTrue 500000 (startSt Tryz.prog laidL 5 [.red .i64 false 3 1, .red .i64 true 15 2]) = true := by decide +kernel
set_option maxRecDepth 1000000 in
theorem main_run_1_4 : @runF Tryz.prog hookM isTrue 500000 (startSt Tryz.prog laidL 5 [.red .i64 false 3 1, .red .i64 true 15 4]) = true := by decide +kernel
set_option maxRecDepth 1000000 in
theorem main_run_1_6 : @runF Tryz.prog hookM isTrue 500000 (startSt Tryz.prog laidL 5 [.red .i64 false 3 1, .red .i64 true 15 6]) = true := by decide +kernel
set_option maxRecDepth 1000000 in
theorem main_run_1_8 : @runF Tryz.prog hookM isTrue 500000 (startSt Tryz.prog laidL 5 [.red .i64 false 3 1, .red .i64 true 15 8]) = true := by decide +kernel
set_option maxRecDepth 1000000 in
theorem main_run_1_10 : @runF Tryz.prog hookM isTrue 500000 (startSt Tryz.prog laidL 5 [.red .i64 false 3 1, .red .i64 true 15 10]) = true := by decide +kernel
set_option maxRecDepth 1000000 in
theorem main_run_1_12 : @runF Tryz.prog hookM isTrue 500000 (startSt Tryz.prog laidL 5 [.red .i64 false 3 1, .red .i64 true 15 12]) = true := by decide +kernel
set_option maxRecDepth 1000000 in
theorem main_run_1_14 : @runF Tryz.prog hookM isTrue 500000 (startSt Tryz.prog laidL 5 [.red .i64 false 3 1, .red .i64 true 15 14]) = true := by decide +kernel
set_option maxRecDepth 1000000 in
theorem main_run_2_0 : @runF Tryz.prog hookM isTrue 500000 (startSt Tryz.prog laidL 5 [.red .i64 false 3 2, .red .i64 true 15 0]) = true := by decide +kernel
set_option maxRecDepth 1000000 in
theorem main_run_2_2 : @runF Tryz.prog hookM isTrue 500000 (startSt Tryz.prog laidL 5 [.red .i64 false 3 2, .red .i64 true 15 2]) = true := by decide +kernel
set_option maxRecDepth 1000000 in
theorem main_run_2_4 : @runF Tryz.prog hookM isTrue 500000 (startSt Tryz.prog laidL 5 [.red .i64 false 3 2, .red .i64 true 15 4]) = true := by decide +kernel
set_option maxRecDepth 1000000 in
theorem main_run_2_6 : @runF Tryz.prog hookM isTrue 500000 (startSt Tryz.prog laidL 5 [.red .i64 false 3 2, .red .i64 true 15 6]) = true := by decide +kernel
set_option maxRecDepth 1000000 in
theorem main_run_2_8 : @runF Tryz.prog hookM isTrue 500000 (startSt Tryz.prog laidL 5 [.red .i64 false 3 2, .red .i64 true 15 8]) = true := by decide +kernel
set_option maxRecDepth 1000000 in
theorem main_run_2_10 : @runF Tryz.prog hookM isTrue 500000 (startSt Tryz.prog laidL 5 [.red .i64 false 3 2, .red .i64 true 15 10]) = true := by decide +kernel
set_option maxRecDepth 1000000 in
theorem main_run_2_12 : @runF Tryz.prog hookM isTrue 500000 (startSt Tryz.prog laidL 5 [.red .i64 false 3 2, .red .i64 true 15 12]) = true := by decide +kernel
set_option maxRecDepth 1000000 in
theorem main_run_2_14 : @runF Tryz.prog hookM isTrue 500000 (startSt Tryz.prog laidL 5 [.red .i64 false 3 2, .red .i64 true 15 14]) = true := by decide +kernel
end Go.Proofs.YtdkbfimccddikaaGreatDoor

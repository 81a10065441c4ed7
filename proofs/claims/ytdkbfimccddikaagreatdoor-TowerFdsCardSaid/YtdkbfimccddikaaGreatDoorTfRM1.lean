/- Runs of the law by the evaluator, in the kernel, its 'awake' taken by its contract: it answers true in every order. No conditions. -/
import Derived.Test.YtdkbfimccddikaaGreatDoorTfH
namespace Go.Proofs.YtdkbfimccddikaaGreatDoor
open Go.VM
set_option maxRecDepth 1000000 in
theorem main_run_0_1 : @runF Tryz.prog hookM isTrue 500000 (startSt Tryz.prog laidL 5 [.red .i64 false 3 0, .red .i64 true 15 1]) = true := by decide +kernel
set_option maxRecDepth 1000000 in
theorem main_run_0_3 : @runF Tryz.prog hookM isTrue 500000 (startSt Tryz.prog laidL 5 [.red .i64 false 3 0, .red .i64 true 15 3]) = true := by decide +kernel
set_option maxRecDepth 1000000 in
theorem main_run_0_5 : @runF Tryz.prog hookM isTrue 500000 (startSt Tryz.prog laidL 5 [.red .i64 false 3 0, .red .i64 true 15 5]) = true := by decide +kernel
set_option maxRecDepth 1000000 in
theorem main_run_0_7 : @runF Tryz.prog hookM isTrue 500000 (startSt Tryz.prog laidL 5 [.red .i64 false 3 0, .red .i64 true 15 7]) = true := by decide +kernel
set_option maxRecDepth 1000000 in
theorem main_run_0_9 : @runF Tryz.prog hookM isTrue 500000 (startSt Tryz.prog laidL 5 [.red .i64 false 3 0, .red .i64 true 15 9]) = true := by decide +kernel
set_option maxRecDepth 1000000 in
theorem main_run_0_11 : @runF Tryz.prog hookM isTrue 500000 (startSt Tryz.prog laidL 5 [.red .i64 false 3 0, .red .i64 true 15 11]) = true := by decide +kernel
set_option maxRecDepth 1000000 in
theorem main_run_0_13 : @runF Tryz.prog hookM isTrue 500000 (startSt Tryz.prog laidL 5 [.red .i64 false 3 0, .red .i64 true 15 13]) = true := by decide +kernel
set_option maxRecDepth 1000000 in
theorem main_run_0_15 : @runF Tryz.prog hookM isTrue 500000 (startSt Tryz.prog laidL 5 [.red .i64 false 3 0, .red .i64 true 15 15]) = true := by decide +kernel
set_option maxRecDepth 1000000 in
theorem main_run_1_1 : @runF Tryz.prog hookM isTrue 500000 (startSt Tryz.prog laidL 5 [.red .i64 false 3 1, .red .i64 true 15 1]) = true := by decide +kernel
set_option maxRecDepth 1000000 in
theorem main_run_1_3 : @runF Tryz.prog hookM isTrue 500000 (startSt Tryz.prog laidL 5 [.red .i64 false 3 1, .red .i64 true 15 3]) = true := by decide +kernel
set_option maxRecDepth 1000000 in
theorem main_run_1_5 : @runF Tryz.prog hookM isTrue 500000 (startSt Tryz.prog laidL 5 [.red .i64 false 3 1, .red .i64 true 15 5]) = true := by decide +kernel
set_option maxRecDepth 1000000 in
theorem main_run_1_7 : @runF Tryz.prog hookM isTrue 500000 (startSt Tryz.prog laidL 5 [.red .i64 false 3 1, .red .i64 true 15 7]) = true := by decide +kernel
set_option maxRecDepth 1000000 in
theorem main_run_1_9 : @runF Tryz.prog hookM isTrue 500000 (startSt Tryz.prog laidL 5 [.red .i64 false 3 1, .red .i64 true 15 9]) = true := by decide +kernel
set_option maxRecDepth 1000000 in
theorem main_run_1_11 : @runF Tryz.prog hookM isTrue 500000 (startSt Tryz.prog laidL 5 [.red .i64 false 3 1, .red .i64 true 15 11]) = true := by decide +kernel
set_option maxRecDepth 1000000 in
theorem main_run_1_13 : @runF Tryz.prog hookM isTrue 500000 (startSt Tryz.prog laidL 5 [.red .i64 false 3 1, .red .i64 true 15 13]) = true := by decide +kernel
set_option maxRecDepth 1000000 in
theorem main_run_1_15 : @runF Tryz.prog hookM isTrue 500000 (startSt Tryz.prog laidL 5 [.red .i64 false 3 1, .red .i64 true 15 15]) = true := by decide +kernel
set_option maxRecDepth 1000000 in
theorem main_run_2_1 : @runF Tryz.prog hookM isTrue 500000 (startSt Tryz.prog laidL 5 [.red .i64 false 3 2, .red .i64 true 15 1]) = true := by decide +kernel
set_option maxRecDepth 1000000 in
theorem main_run_2_3 : @runF Tryz.prog hookM isTrue 500000 (startSt Tryz.prog laidL 5 [.red .i64 false 3 2, .red .i64 true 15 3]) = true := by decide +kernel
set_option maxRecDepth 1000000 in
theorem main_run_2_5 : @runF Tryz.prog hookM isTrue 500000 (startSt Tryz.prog laidL 5 [.red .i64 false 3 2, .red .i64 true 15 5]) = true := by decide +kernel
set_option maxRecDepth 1000000 in
theorem main_run_2_7 : @runF Tryz.prog hookM isTrue 500000 (startSt Tryz.prog laidL 5 [.red .i64 false 3 2, .red .i64 true 15 7]) = true := by decide +kernel
set_option maxRecDepth 1000000 in
theorem main_run_2_9 : @runF Tryz.prog hookM isTrue 500000 (startSt Tryz.prog laidL 5 [.red .i64 false 3 2, .red .i64 true 15 9]) = true := by decide +kernel
set_option maxRecDepth 1000000 in
theorem main_run_2_11 : @runF Tryz.prog hookM isTrue 500000 (startSt Tryz.prog laidL 5 [.red .i64 false 3 2, .red .i64 true 15 11]) = true := by decide +kernel
set_option maxRecDepth 1000000 in
theorem main_run_2_13 : @runF Tryz.prog hookM isTrue 500000 (startSt Tryz.prog laidL 5 [.red .i64 false 3 2, .red .i64 true 15 13]) = true := by decide +kernel
set_option maxRecDepth 1000000 in
theorem main_run_2_15 : @runF Tryz.prog hookM isTrue 500000 (startSt Tryz.prog laidL 5 [.red .i64 false 3 2, .red .i64 true 15 15]) = true := by decide +kernel
end Go.Proofs.YtdkbfimccddikaaGreatDoor

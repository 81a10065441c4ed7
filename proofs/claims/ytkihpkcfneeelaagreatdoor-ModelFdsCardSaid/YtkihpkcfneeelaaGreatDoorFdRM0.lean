/- Runs of the law by the evaluator, in the kernel, its 'awake' taken by its contract: it answers true in every order. No conditions. -/
import Derived.Test.YtkihpkcfneeelaaGreatDoorFdH
namespace Go.Proofs.YtkihpkcfneeelaaGreatDoor
open Go.VM
set_option maxRecDepth 1000000 in
theorem main_run_0_0 : @runF Tryz.prog hookM isTrue 500000 (startSt Tryz.prog laidL 7 [.red .i64 false 3 0, .red .i64 true 15 0]) = true := by decide +kernel
set_option maxRecDepth 1000000 in
theorem main_run_0_4 : @runF Tryz.prog hookM isTrue 500000 (startSt Tryz.prog laidL 7 [.red .i64 false 3 0, .red .i64 true 15 4]) = true := by decide +kernel
set_option maxRecDepth 1000000 in
theorem main_run_0_8 : @runF Tryz.prog hookM isTrue 500000 (startSt Tryz.prog laidL 7 [.red .i64 false 3 0, .red .i64 true 15 8]) = true := by decide +kernel
set_option maxRecDepth 1000000 in
theorem main_run_0_12 : @runF Tryz.prog hookM isTrue 500000 (startSt Tryz.prog laidL 7 [.red .i64 false 3 0, .red .i64 true 15 12]) = true := by decide +kernel
set_option maxRecDepth 1000000 in
theorem main_run_1_0 : @runF Tryz.prog hookM isTrue 500000 (startSt Tryz.prog laidL 7 [.red .i64 false 3 1, .red .i64 true 15 0]) = true := by decide +kernel
set_option maxRecDepth 1000000 in
theorem main_run_1_4 : @runF Tryz.prog hookM isTrue 500000 (startSt Tryz.prog laidL 7 [.red .i64 false 3 1, .red .i64 true 15 4]) = true := by decide +kernel
set_option maxRecDepth 1000000 in
theorem main_run_1_8 : @runF Tryz.prog hookM isTrue 500000 (startSt Tryz.prog laidL 7 [.red .i64 false 3 1, .red .i64 true 15 8]) = true := by decide +kernel
set_option maxRecDepth 1000000 in
theorem main_run_1_12 : @runF Tryz.prog hookM isTrue 500000 (startSt Tryz.prog laidL 7 [.red .i64 false 3 1, .red .i64 true 15 12]) = true := by decide +kernel
set_option maxRecDepth 1000000 in
theorem main_run_2_0 : @runF Tryz.prog hookM isTrue 500000 (startSt Tryz.prog laidL 7 [.red .i64 false 3 2, .red .i64 true 15 0]) = true := by decide +kernel
set_option maxRecDepth 1000000 in
theorem main_run_2_4 : @runF Tryz.prog hookM isTrue 500000 (startSt Tryz.prog laidL 7 [.red .i64 false 3 2, .red .i64 true 15 4]) = true := by decide +kernel
set_option maxRecDepth 1000000 in
theorem main_run_2_8 : @runF Tryz.prog hookM isTrue 500000 (startSt Tryz.prog laidL 7 [.red .i64 false 3 2, .red .i64 true 15 8]) = true := by decide +kernel
set_option maxRecDepth 1000000 in
theorem main_run_2_12 : @runF Tryz.prog hookM isTrue 500000 (startSt Tryz.prog laidL 7 [.red .i64 false 3 2, .red .i64 true 15 12]) = true := by decide +kernel
end Go.Proofs.YtkihpkcfneeelaaGreatDoor

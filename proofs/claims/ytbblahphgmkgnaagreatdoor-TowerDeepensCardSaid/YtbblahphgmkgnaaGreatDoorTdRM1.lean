/- Runs of the law by the evaluator, in the kernel, its 'awake' taken by its contract: it answers true in every order. No conditions. -/
import Derived.Test.YtbblahphgmkgnaaGreatDoorTdH
namespace Go.Proofs.YtbblahphgmkgnaaGreatDoor
open Go.VM
set_option maxRecDepth 1000000 in
theorem main_run_0_1 : @runF Tryz.prog hookM isTrue 500000 (startSt Tryz.prog laidL 5 [.red .i64 true 3 0, .red .i64 true 7 1]) = true := by decide +kernel
set_option maxRecDepth 1000000 in
theorem main_run_0_3 : @runF Tryz.prog hookM isTrue 500000 (startSt Tryz.prog laidL 5 [.red .i64 true 3 0, .red .i64 true 7 3]) = true := by decide +kernel
set_option maxRecDepth 1000000 in
theorem main_run_0_5 : @runF Tryz.prog hookM isTrue 500000 (startSt Tryz.prog laidL 5 [.red .i64 true 3 0, .red .i64 true 7 5]) = true := by decide +kernel
set_option maxRecDepth 1000000 in
theorem main_run_0_7 : @runF Tryz.prog hookM isTrue 500000 (startSt Tryz.prog laidL 5 [.red .i64 true 3 0, .red .i64 true 7 7]) = true := by decide +kernel
set_option maxRecDepth 1000000 in
theorem main_run_1_1 : @runF Tryz.prog hookM isTrue 500000 (startSt Tryz.prog laidL 5 [.red .i64 true 3 1, .red .i64 true 7 1]) = true := by decide +kernel
set_option maxRecDepth 1000000 in
theorem main_run_1_3 : @runF Tryz.prog hookM isTrue 500000 (startSt Tryz.prog laidL 5 [.red .i64 true 3 1, .red .i64 true 7 3]) = true := by decide +kernel
set_option maxRecDepth 1000000 in
theorem main_run_1_5 : @runF Tryz.prog hookM isTrue 500000 (startSt Tryz.prog laidL 5 [.red .i64 true 3 1, .red .i64 true 7 5]) = true := by decide +kernel
set_option maxRecDepth 1000000 in
theorem main_run_1_7 : @runF Tryz.prog hookM isTrue 500000 (startSt Tryz.prog laidL 5 [.red .i64 true 3 1, .red .i64 true 7 7]) = true := by decide +kernel
set_option maxRecDepth 1000000 in
theorem main_run_2_1 : @runF Tryz.prog hookM isTrue 500000 (startSt Tryz.prog laidL 5 [.red .i64 true 3 2, .red .i64 true 7 1]) = true := by decide +kernel
set_option maxRecDepth 1000000 in
theorem main_run_2_3 : @runF Tryz.prog hookM isTrue 500000 (startSt Tryz.prog laidL 5 [.red .i64 true 3 2, .red .i64 true 7 3]) = true := by decide +kernel
set_option maxRecDepth 1000000 in
theorem main_run_2_5 : @runF Tryz.prog hookM isTrue 500000 (startSt Tryz.prog laidL 5 [.red .i64 true 3 2, .red .i64 true 7 5]) = true := by decide +kernel
set_option maxRecDepth 1000000 in
theorem main_run_2_7 : @runF Tryz.prog hookM isTrue 500000 (startSt Tryz.prog laidL 5 [.red .i64 true 3 2, .red .i64 true 7 7]) = true := by decide +kernel
set_option maxRecDepth 1000000 in
theorem main_run_3_1 : @runF Tryz.prog hookM isTrue 500000 (startSt Tryz.prog laidL 5 [.red .i64 true 3 3, .red .i64 true 7 1]) = true := by decide +kernel
set_option maxRecDepth 1000000 in
theorem main_run_3_3 : @runF Tryz.prog hookM isTrue 500000 (startSt Tryz.prog laidL 5 [.red .i64 true 3 3, .red .i64 true 7 3]) = true := by decide +kernel
set_option maxRecDepth 1000000 in
theorem main_run_3_5 : @runF Tryz.prog hookM isTrue 500000 (startSt Tryz.prog laidL 5 [.red .i64 true 3 3, .red .i64 true 7 5]) = true := by decide +kernel
set_option maxRecDepth 1000000 in
theorem main_run_3_7 : @runF Tryz.prog hookM isTrue 500000 (startSt Tryz.prog laidL 5 [.red .i64 true 3 3, .red .i64 true 7 7]) = true := by decide +kernel
end Go.Proofs.YtbblahphgmkgnaaGreatDoor

/- Runs of the law by the evaluator, in the kernel, its 'awake' taken by its contract: it answers true in every order. No conditions. -/
import Derived.Test.YtbblahphgmkgnaaGreatDoorTdH
namespace Go.Proofs.YtbblahphgmkgnaaGreatDoor
open Go.VM
set_option maxRecDepth 1000000 in
theorem main_run_0_0 : @runF Tryz.prog hookM isTrue 500000 (startSt Tryz.prog laidL 5 [.red .i64 true 3 0, .red .i64 true 7 0]) = true := by decide +kernel
set_option maxRecDepth 1000000 in
theorem main_run_0_2 : @runF Tryz.prog hookM isTrue 500000 (startSt Tryz.prog laidL 5 [.red .i64 true 3 0, .red .i64 true 7 2]) = true := by decide +kernel
set_option maxRecDepth 1000000 in
theorem main_run_0_4 : @runF Tryz.prog hookM isTrue 500000 (startSt Tryz.prog laidL 5 [.red .i64 true 3 0, .red .i64 true 7 4]) = true := by decide +kernel
set_option maxRecDepth 1000000 in
theorem main_run_0_6 : @runF Tryz.prog hookM isTrue 500000 (startSt Tryz.prog laidL 5 [.red .i64 true 3 0, .red .i64 true 7 6]) = true := by decide +kernel
set_option maxRecDepth 1000000 in
theorem main_run_1_0 : @runF Tryz.prog hookM isTrue 500000 (startSt Tryz.prog laidL 5 [.red .i64 true 3 1, .red .i64 true 7 0]) = true := by decide +kernel
set_option maxRecDepth 1000000 in
theorem main_run_1_2 : @runF Tryz.prog hookM isTrue 500000 (startSt Tryz.prog laidL 5 [.red .i64 true 3 1, .red .i64 true 7 2]) = true := by decide +kernel
set_option maxRecDepth 1000000 in
theorem main_run_1_4 : @runF Tryz.prog hookM isTrue 500000 (startSt Tryz.prog laidL 5 [.red .i64 true 3 1, .red .i64 true 7 4]) = true := by decide +kernel
set_option maxRecDepth 1000000 in
theorem main_run_1_6 : @runF Tryz.prog hookM isTrue 500000 (startSt Tryz.prog laidL 5 [.red .i64 true 3 1, .red .i64 true 7 6]) = true := by decide +kernel
set_option maxRecDepth 1000000 in
theorem main_run_2_0 : @runF Tryz.prog hookM isTrue 500000 (startSt Tryz.prog laidL 5 [.red .i64 true 3 2, .red .i64 true 7 0]) = true := by decide +kernel
set_option maxRecDepth 1000000 in
theorem main_run_2_2 : @runF Tryz.prog hookM isTrue 500000 (startSt Tryz.prog laidL 5 [.red .i64 true 3 2, .red .i64 true 7 2]) = true := by decide +kernel
set_option maxRecDepth 1000000 in
theorem main_run_2_4 : @runF Tryz.prog hookM isTrue 500000 (startSt Tryz.prog laidL 5 [.red .i64 true 3 2, .red .i64 true 7 4]) = true := by decide +kernel
set_option maxRecDepth 1000000 in
theorem main_run_2_6 : @runF Tryz.prog hookM isTrue 500000 (startSt Tryz.prog laidL 5 [.red .i64 true 3 2, .red .i64 true 7 6]) = true := by decide +kernel
set_option maxRecDepth 1000000 in
theorem main_run_3_0 : @runF Tryz.prog hookM isTrue 500000 (startSt Tryz.prog laidL 5 [.red .i64 true 3 3, .red .i64 true 7 0]) = true := by decide +kernel
set_option maxRecDepth 1000000 in
theorem main_run_3_2 : @runF Tryz.prog hookM isTrue 500000 (startSt Tryz.prog laidL 5 [.red .i64 true 3 3, .red .i64 true 7 2]) = true := by decide +kernel
set_option maxRecDepth 1000000 in
theorem main_run_3_4 : @runF Tryz.prog hookM isTrue 500000 (startSt Tryz.prog laidL 5 [.red .i64 true 3 3, .red .i64 true 7 4]) = true := by decide +kernel
set_option maxRecDepth 1000000 in
theorem main_run_3_6 : @runF Tryz.prog hookM isTrue 500000 (startSt Tryz.prog laidL 5 [.red .i64 true 3 3, .red .i64 true 7 6]) = true := by decide +kernel
end Go.Proofs.YtbblahphgmkgnaaGreatDoor

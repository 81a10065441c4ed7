/- Runs of the law by the evaluator, in the kernel, its 'awake' taken by its contract: it answers true in every order. No conditions. -/
import Derived.Test.YtbblahphgmkgnaaGreatDoorTyH
namespace Go.Proofs.YtbblahphgmkgnaaGreatDoor
open Go.VM
set_option maxRecDepth 1000000 in
theorem main_run_0_1 : @runF Tryz.prog hookM isTrue 500000 (startSt Tryz.prog laidL 4 [.red .i64 true 3 0, .red .i64 false 2 1]) = true := by decide +kernel
set_option maxRecDepth 1000000 in
theorem main_run_2_0 : @runF Tryz.prog hookM isTrue 500000 (startSt Tryz.prog laidL 4 [.red .i64 true 3 2, .red .i64 false 4 0]) = true := by decide +kernel
set_option maxRecDepth 1000000 in
theorem main_run_3_0 : @runF Tryz.prog hookM isTrue 500000 (startSt Tryz.prog laidL 4 [.red .i64 true 3 3, .red .i64 false 5 0]) = true := by decide +kernel
set_option maxRecDepth 1000000 in
theorem main_run_3_4 : @runF Tryz.prog hookM isTrue 500000 (startSt Tryz.prog laidL 4 [.red .i64 true 3 3, .red .i64 false 5 4]) = true := by decide +kernel
end Go.Proofs.YtbblahphgmkgnaaGreatDoor

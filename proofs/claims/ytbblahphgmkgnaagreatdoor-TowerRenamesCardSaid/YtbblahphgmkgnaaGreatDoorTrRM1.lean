/- Runs of the law by the evaluator, in the kernel, its 'awake' taken by its contract: it answers true in every order. No conditions. -/
import Derived.Test.YtbblahphgmkgnaaGreatDoorTrH
namespace Go.Proofs.YtbblahphgmkgnaaGreatDoor
open Go.VM
set_option maxRecDepth 1000000 in
theorem main_run_0_0_1 : @runF Tryz.prog hookM isTrue 500000 (startSt Tryz.prog laidL 3 [.red .i64 false 3 0, .bool false, .bool true]) = true := by decide +kernel
set_option maxRecDepth 1000000 in
theorem main_run_1_0_1 : @runF Tryz.prog hookM isTrue 500000 (startSt Tryz.prog laidL 3 [.red .i64 false 3 1, .bool false, .bool true]) = true := by decide +kernel
set_option maxRecDepth 1000000 in
theorem main_run_2_0_1 : @runF Tryz.prog hookM isTrue 500000 (startSt Tryz.prog laidL 3 [.red .i64 false 3 2, .bool false, .bool true]) = true := by decide +kernel
end Go.Proofs.YtbblahphgmkgnaaGreatDoor

/- Runs of the law by the evaluator, in the kernel, its 'awake' taken by its contract: it answers true in every order. No conditions. -/
import Derived.Test.YtckbhajndplkiaaGreatDoorSzH
namespace Go.Proofs.YtckbhajndplkiaaGreatDoor
open Go.VM
set_option maxRecDepth 1000000 in
theorem main_run_3_0 : @runF Tryz.prog hookM isTrue 500000 (startSt Tryz.prog laidL 3 [.red .i64 false 20 3, .red .i64 false 1 0]) = true := by decide +kernel
set_option maxRecDepth 1000000 in
theorem main_run_8_0 : @runF Tryz.prog hookM isTrue 500000 (startSt Tryz.prog laidL 3 [.red .i64 false 20 8, .red .i64 false 1 0]) = true := by decide +kernel
set_option maxRecDepth 1000000 in
theorem main_run_13_0 : @runF Tryz.prog hookM isTrue 500000 (startSt Tryz.prog laidL 3 [.red .i64 false 20 13, .red .i64 false 1 0]) = true := by decide +kernel
set_option maxRecDepth 1000000 in
theorem main_run_18_0 : @runF Tryz.prog hookM isTrue 500000 (startSt Tryz.prog laidL 3 [.red .i64 false 20 18, .red .i64 false 1 0]) = true := by decide +kernel
end Go.Proofs.YtckbhajndplkiaaGreatDoor

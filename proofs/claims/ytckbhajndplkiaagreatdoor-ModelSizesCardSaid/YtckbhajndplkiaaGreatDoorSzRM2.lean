/- Runs of the law by the evaluator, in the kernel, its 'awake' taken by its contract: it answers true in every order. No conditions. -/
import Derived.Test.YtckbhajndplkiaaGreatDoorSzH
namespace Go.Proofs.YtckbhajndplkiaaGreatDoor
open Go.VM
set_option maxRecDepth 1000000 in
theorem main_run_2_0 : @runF Tryz.prog hookM isTrue 500000 (startSt Tryz.prog laidL 3 [.red .i64 false 20 2, .red .i64 false 1 0]) = true := by decide +kernel
set_option maxRecDepth 1000000 in
theorem main_run_7_0 : @runF Tryz.prog hookM isTrue 500000 (startSt Tryz.prog laidL 3 [.red .i64 false 20 7, .red .i64 false 1 0]) = true := by decide +kernel
set_option maxRecDepth 1000000 in
theorem main_run_12_0 : @runF Tryz.prog hookM isTrue 500000 (startSt Tryz.prog laidL 3 [.red .i64 false 20 12, .red .i64 false 1 0]) = true := by decide +kernel
set_option maxRecDepth 1000000 in
theorem main_run_17_0 : @runF Tryz.prog hookM isTrue 500000 (startSt Tryz.prog laidL 3 [.red .i64 false 20 17, .red .i64 false 1 0]) = true := by decide +kernel
end Go.Proofs.YtckbhajndplkiaaGreatDoor

/- Runs of the law by the evaluator, in the kernel, its 'awake' taken by its contract: it answers true in every order. No conditions. -/
import Derived.Test.YtckbhajndplkiaaGreatDoorFuH
namespace Go.Proofs.YtckbhajndplkiaaGreatDoor
open Go.VM
set_option maxRecDepth 1000000 in
theorem main_run_1 : @runF Tryz.prog hookM isTrue 500000 (startSt Tryz.prog laidL 8 [.red .i64 false 32 1]) = true := by decide +kernel
set_option maxRecDepth 1000000 in
theorem main_run_9 : @runF Tryz.prog hookM isTrue 500000 (startSt Tryz.prog laidL 8 [.red .i64 false 32 9]) = true := by decide +kernel
set_option maxRecDepth 1000000 in
theorem main_run_17 : @runF Tryz.prog hookM isTrue 500000 (startSt Tryz.prog laidL 8 [.red .i64 false 32 17]) = true := by decide +kernel
set_option maxRecDepth 1000000 in
theorem main_run_25 : @runF Tryz.prog hookM isTrue 500000 (startSt Tryz.prog laidL 8 [.red .i64 false 32 25]) = true := by decide +kernel
end Go.Proofs.YtckbhajndplkiaaGreatDoor

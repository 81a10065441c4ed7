/- Runs of the law by the evaluator, in the kernel, its 'awake' taken by its contract: it answers true in every order. No conditions. -/
import Derived.Test.YtckbhajndplkiaaGreatDoorFuH
namespace Go.Proofs.YtckbhajndplkiaaGreatDoor
open Go.VM
set_option maxRecDepth 1000000 in
theorem main_run_6 : @runF Tryz.prog hookM isTrue 500000 (startSt Tryz.prog laidL 8 [.red .i64 false 32 6]) = true := by decide +kernel
set_option maxRecDepth 1000000 in
theorem main_run_14 : @runF Tryz.prog hookM isTrue 500000 (startSt Tryz.prog laidL 8 [.red .i64 false 32 14]) = true := by decide +kernel
set_option maxRecDepth 1000000 in
theorem main_run_22 : @runF Tryz.prog hookM isTrue 500000 (startSt Tryz.prog laidL 8 [.red .i64 false 32 22]) = true := by decide +kernel
set_option maxRecDepth 1000000 in
theorem main_run_30 : @runF Tryz.prog hookM isTrue 500000 (startSt Tryz.prog laidL 8 [.red .i64 false 32 30]) = true := by decide +kernel
end Go.Proofs.YtckbhajndplkiaaGreatDoor

/- Runs of the law by the evaluator, in the kernel, its 'awake' taken by its contract: it answers true in every order. No conditions. -/
import Derived.Test.YtckbhajndplkiaaGreatDoorFuH
namespace Go.Proofs.YtckbhajndplkiaaGreatDoor
open Go.VM
set_option maxRecDepth 1000000 in
theorem main_run_4 : @runF Tryz.prog hookM isTrue 500000 (startSt Tryz.prog laidL 8 [.red .i64 false 32 4]) = true := by decide +kernel
set_option maxRecDepth 1000000 in
theorem main_run_12 : @runF Tryz.prog hookM isTrue 500000 (startSt Tryz.prog laidL 8 [.red .i64 false 32 12]) = true := by decide +kernel
set_option maxRecDepth 1000000 in
theorem main_run_20 : @runF Tryz.prog hookM isTrue 500000 (startSt Tryz.prog laidL 8 [.red .i64 false 32 20]) = true := by decide +kernel
set_option maxRecDepth 1000000 in
theorem main_run_28 : @runF Tryz.prog hookM isTrue 500000 (startSt Tryz.prog laidL 8 [.red .i64 false 32 28]) = true := by decide +kernel
end Go.Proofs.YtckbhajndplkiaaGreatDoor

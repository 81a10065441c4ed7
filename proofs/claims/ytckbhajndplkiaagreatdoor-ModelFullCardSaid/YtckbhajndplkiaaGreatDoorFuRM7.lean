/- Runs of the law by the evaluator, in the kernel, its 'awake' taken by its contract: it answers true in every order. No conditions. -/
import Derived.Test.YtckbhajndplkiaaGreatDoorFuH
namespace Go.Proofs.YtckbhajndplkiaaGreatDoor
open Go.VM
set_option maxRecDepth 1000000 in
theorem main_run_7 : @runF Tryz.prog hookM isTrue 500000 (startSt Tryz.prog laidL 8 [.red .i64 false 32 7]) = true := by decide +kernel
set_option maxRecDepth 1000000 in
theorem main_run_15 : @runF Tryz.prog hookM isTrue 500000 (startSt Tryz.prog laidL 8 [.red .i64 false 32 15]) = true := by decide +kernel
set_option maxRecDepth 1000000 in
theorem main_run_23 : @runF Tryz.prog hookM isTrue 500000 (startSt Tryz.prog laidL 8 [.red .i64 false 32 23]) = true := by decide +kernel
set_option maxRecDepth 1000000 in
theorem main_run_31 : @runF Tryz.prog hookM isTrue 500000 (startSt Tryz.prog laidL 8 [.red .i64 false 32 31]) = true := by decide +kernel
end Go.Proofs.YtckbhajndplkiaaGreatDoor

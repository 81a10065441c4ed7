/- Runs of the law by the evaluator, in the kernel, its 'awake' taken by its contract: it answers true in every order. No conditions. -/
import Derived.Test.YtckbhajndplkiaaGreatDoorFuH
namespace Go.Proofs.YtckbhajndplkiaaGreatDoor
open Go.VM
set_option maxRecDepth 1000000 in
theorem main_run_2 : @runF Tryz.prog hookM isTrue 500000 (startSt Tryz.prog laidL 8 [.red .i64 false 32 2]) = true := by decide +kernel
set_option maxRecDepth 1000000 in
theorem main_run_10 : @runF Tryz.prog hookM isTrue 500000 (startSt Tryz.prog laidL 8 [.red .i64 false 32 10]) = true := by decide +kernel
set_option maxRecDepth 1000000 in
theorem main_run_18 : @runF Tryz.prog hookM isTrue 500000 (startSt Tryz.prog laidL 8 [.red .i64 false 32 18]) = true := by decide +kernel
set_option maxRecDepth 1000000 in
theorem main_run_26 : @runF Tryz.prog hookM isTrue 500000 (startSt Tryz.prog laidL 8 [.red .i64 false 32 26]) = true := by decide +kernel
end Go.Proofs.YtckbhajndplkiaaGreatDoor

/- Runs of the law by the evaluator, in the kernel, its 'awake' taken by its contract: it answers true in every order. No conditions. -/
import Derived.Test.YtckbhajndplkiaaGreatDoorFuH
namespace Go.Proofs.YtckbhajndplkiaaGreatDoor
open Go.VM
set_option maxRecDepth 1000000 in
theorem main_run_3 : @runF Tryz.prog hookM isTrue 500000 (startSt Tryz.prog laidL 8 [.red .i64 false 32 3]) = true := by decide +kernel
set_option maxRecDepth 1000000 in
theorem main_run_11 : @runF Tryz.prog hookM isTrue 500000 (startSt Tryz.prog laidL 8 [.red .i64 false 32 11]) = true := by decide +kernel
set_option maxRecDepth 1000000 in
theorem main_run_19 : @runF Tryz.prog hookM isTrue 500000 (startSt Tryz.prog laidL 8 [.red .i64 false 32 19]) = true := by decide +kernel
set_option maxRecDepth 1000000 in
theorem main_run_27 : @runF Tryz.prog hookM isTrue 500000 (startSt Tryz.prog laidL 8 [.red .i64 false 32 27]) = true := by decide +kernel
end Go.Proofs.YtckbhajndplkiaaGreatDoor

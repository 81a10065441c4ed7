/- Runs of the law by the evaluator, in the kernel, its 'awake' taken by its contract: it answers true in every order. No conditions. -/
import Derived.Test.YtckbhajndplkiaaGreatDoorFuH
namespace Go.Proofs.YtckbhajndplkiaaGreatDoor
open Go.VM
set_option maxRecDepth 1000000 in
theorem main_run_5 : @runF Tryz.prog hookM isTrue 500000 (startSt Tryz.prog laidL 8 [.red .i64 false 32 5]) = true := by decide +kernel
set_option maxRecDepth 1000000 in
theorem main_run_13 : @runF Tryz.prog hookM isTrue 500000 (startSt Tryz.prog laidL 8 [.red .i64 false 32 13]) = true := by decide +kernel
set_option maxRecDepth 1000000 in
theorem main_run_21 : @runF Tryz.prog hookM isTrue 500000 (startSt Tryz.prog laidL 8 [.red .i64 false 32 21]) = true := by decide +kernel
set_option maxRecDepth 1000000 in
theorem main_run_29 : @runF Tryz.prog hookM isTrue 500000 (startSt Tryz.prog laidL 8 [.red .i64 false 32 29]) = true := by decide +kernel
end Go.Proofs.YtckbhajndplkiaaGreatDoor

/- Runs of the law by the evaluator, in the kernel, its 'awake' taken by its contract: it answers true in every order. No conditions. -/
import Derived.Test.YtckbhajndplkiaaGreatDoorFuH
namespace Go.Proofs.YtckbhajndplkiaaGreatDoor
open Go.VM
set_option maxRecDepth 1000000 in
theorem main_run_0 : @runF Tryz.prog hookM isTrue 500000 (startSt Tryz.prog laidL 8 [.red .i64 false 32 0]) = true := by decide +kernel
set_option maxRecDepth 1000000 in
theorem main_run_8 : @runF Tryz.prog hookM isTrue 500000 (startSt Tryz.prog laidL 8 [.red .i64 false 32 8]) = true := by decide +kernel
set_option maxRecDepth 1000000 in
theorem main_run_16 : @runF Tryz.prog hookM isTrue 500000 (startSt Tryz.prog laidL 8 [.red .i64 false 32 16]) = true := by decide +kernel
set_option maxRecDepth 1000000 in
theorem main_run_24 : @runF Tryz.prog hookM isTrue 500000 (startSt Tryz.prog laidL 8 [.red .i64 false 32 24]) = true := by decide +kernel
end Go.Proofs.YtckbhajndplkiaaGreatDoor

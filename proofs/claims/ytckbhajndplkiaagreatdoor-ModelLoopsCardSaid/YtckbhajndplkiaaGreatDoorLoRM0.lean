/- Runs of the law by the evaluator, in the kernel, its 'awake' taken by its contract: it answers true in every order. No conditions. -/
import Derived.Test.YtckbhajndplkiaaGreatDoorLoH
namespace Go.Proofs.YtckbhajndplkiaaGreatDoor
open Go.VM
def runs0_0 : List (List AV) := [[.red .i64 true 15 0], [.red .i64 true 15 4], [.red .i64 true 15 8], [.red .i64 true 15 12]]
set_option maxRecDepth 1000000 in
theorem all0_0 : runs0_0.all (fun a => @runF Tryz.prog hookM isTrue 500000 (startSt Tryz.prog laidL 5 a)) = true := by decide +kernel
theorem main_run_0 : @runF Tryz.prog hookM isTrue 500000 (startSt Tryz.prog laidL 5 [.red .i64 true 15 0]) = true := List.all_eq_true.1 all0_0 _ (List.mem_of_getElem? (i := 0) rfl)
theorem main_run_4 : @runF Tryz.prog hookM isTrue 500000 (startSt Tryz.prog laidL 5 [.red .i64 true 15 4]) = true := List.all_eq_true.1 all0_0 _ (List.mem_of_getElem? (i := 1) rfl)
theorem main_run_8 : @runF Tryz.prog hookM isTrue 500000 (startSt Tryz.prog laidL 5 [.red .i64 true 15 8]) = true := List.all_eq_true.1 all0_0 _ (List.mem_of_getElem? (i := 2) rfl)
theorem main_run_12 : @runF Tryz.prog hookM isTrue 500000 (startSt Tryz.prog laidL 5 [.red .i64 true 15 12]) = true := List.all_eq_true.1 all0_0 _ (List.mem_of_getElem? (i := 3) rfl)
end Go.Proofs.YtckbhajndplkiaaGreatDoor

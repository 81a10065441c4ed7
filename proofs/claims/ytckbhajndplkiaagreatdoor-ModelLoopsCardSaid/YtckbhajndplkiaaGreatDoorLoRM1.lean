/- Runs of the law by the evaluator, in the kernel, its 'awake' taken by its contract: it answers true in every order. No conditions. -/
import Derived.Test.YtckbhajndplkiaaGreatDoorLoH
namespace Go.Proofs.YtckbhajndplkiaaGreatDoor
open Go.VM
def runs1_0 : List (List AV) := [[.red .i64 true 15 1], [.red .i64 true 15 5], [.red .i64 true 15 9], [.red .i64 true 15 13]]
set_option maxRecDepth 1000000 in
theorem all1_0 : runs1_0.all (fun a => @runF Tryz.prog hookM isTrue 500000 (startSt Tryz.prog laidL 5 a)) = true := by decide +kernel
theorem main_run_1 : @runF Tryz.prog hookM isTrue 500000 (startSt Tryz.prog laidL 5 [.red .i64 true 15 1]) = true := List.all_eq_true.1 all1_0 _ (List.mem_of_getElem? (i := 0) rfl)
theorem main_run_5 : @runF Tryz.prog hookM isTrue 500000 (startSt Tryz.prog laidL 5 [.red .i64 true 15 5]) = true := List.all_eq_true.1 all1_0 _ (List.mem_of_getElem? (i := 1) rfl)
theorem main_run_9 : @runF Tryz.prog hookM isTrue 500000 (startSt Tryz.prog laidL 5 [.red .i64 true 15 9]) = true := List.all_eq_true.1 all1_0 _ (List.mem_of_getElem? (i := 2) rfl)
theorem main_run_13 : @runF Tryz.prog hookM isTrue 500000 (startSt Tryz.prog laidL 5 [.red .i64 true 15 13]) = true := List.all_eq_true.1 all1_0 _ (List.mem_of_getElem? (i := 3) rfl)
end Go.Proofs.YtckbhajndplkiaaGreatDoor

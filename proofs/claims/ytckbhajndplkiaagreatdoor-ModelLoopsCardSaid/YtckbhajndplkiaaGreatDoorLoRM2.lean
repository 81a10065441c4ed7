/- Runs of the law by the evaluator, in the kernel, its 'awake' taken by its contract: it answers true in every order. No conditions. -/
import Derived.Test.YtckbhajndplkiaaGreatDoorLoH
namespace Go.Proofs.YtckbhajndplkiaaGreatDoor
open Go.VM
def runs2_0 : List (List AV) := [[.red .i64 true 15 2], [.red .i64 true 15 6], [.red .i64 true 15 10], [.red .i64 true 15 14]]
set_option maxRecDepth 1000000 in
theorem all2_0 : runs2_0.all (fun a => @runF Tryz.prog hookM isTrue 500000 (startSt Tryz.prog laidL 5 a)) = true := by decide +kernel
theorem main_run_2 : @runF Tryz.prog hookM isTrue 500000 (startSt Tryz.prog laidL 5 [.red .i64 true 15 2]) = true := List.all_eq_true.1 all2_0 _ (List.mem_of_getElem? (i := 0) rfl)
theorem main_run_6 : @runF Tryz.prog hookM isTrue 500000 (startSt Tryz.prog laidL 5 [.red .i64 true 15 6]) = true := List.all_eq_true.1 all2_0 _ (List.mem_of_getElem? (i := 1) rfl)
theorem main_run_10 : @runF Tryz.prog hookM isTrue 500000 (startSt Tryz.prog laidL 5 [.red .i64 true 15 10]) = true := List.all_eq_true.1 all2_0 _ (List.mem_of_getElem? (i := 2) rfl)
theorem main_run_14 : @runF Tryz.prog hookM isTrue 500000 (startSt Tryz.prog laidL 5 [.red .i64 true 15 14]) = true := List.all_eq_true.1 all2_0 _ (List.mem_of_getElem? (i := 3) rfl)
end Go.Proofs.YtckbhajndplkiaaGreatDoor

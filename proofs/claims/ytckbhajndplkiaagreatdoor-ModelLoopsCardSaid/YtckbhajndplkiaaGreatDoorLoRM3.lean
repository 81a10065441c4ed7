/- Runs of the law by the evaluator, in the kernel, its 'awake' taken by its contract: it answers true in every order. No conditions. -/
import Derived.Test.YtckbhajndplkiaaGreatDoorLoH
namespace Go.Proofs.YtckbhajndplkiaaGreatDoor
open Go.VM
def runs3_0 : List (List AV) := [[.red .i64 true 15 3], [.red .i64 true 15 7], [.red .i64 true 15 11], [.red .i64 true 15 15]]
set_option maxRecDepth 1000000 in
theorem all3_0 : runs3_0.all (fun a => @runF Tryz.prog hookM isTrue 500000 (startSt Tryz.prog laidL 5 a)) = true := by decide +kernel
theorem main_run_3 : @runF Tryz.prog hookM isTrue 500000 (startSt Tryz.prog laidL 5 [.red .i64 true 15 3]) = true := List.all_eq_true.1 all3_0 _ (List.mem_of_getElem? (i := 0) rfl)
theorem main_run_7 : @runF Tryz.prog hookM isTrue 500000 (startSt Tryz.prog laidL 5 [.red .i64 true 15 7]) = true := List.all_eq_true.1 all3_0 _ (List.mem_of_getElem? (i := 1) rfl)
theorem main_run_11 : @runF Tryz.prog hookM isTrue 500000 (startSt Tryz.prog laidL 5 [.red .i64 true 15 11]) = true := List.all_eq_true.1 all3_0 _ (List.mem_of_getElem? (i := 2) rfl)
theorem main_run_15 : @runF Tryz.prog hookM isTrue 500000 (startSt Tryz.prog laidL 5 [.red .i64 true 15 15]) = true := List.all_eq_true.1 all3_0 _ (List.mem_of_getElem? (i := 3) rfl)
end Go.Proofs.YtckbhajndplkiaaGreatDoor

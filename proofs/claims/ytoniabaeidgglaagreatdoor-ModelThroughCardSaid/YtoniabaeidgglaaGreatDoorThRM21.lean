/- Runs of the law by the evaluator, in the kernel, its 'awake' taken by its contract: it answers true in every order. No conditions. -/
import Derived.Test.YtoniabaeidgglaaGreatDoorThH
namespace Go.Proofs.YtoniabaeidgglaaGreatDoor
open Go.VM
set_option maxRecDepth 1000000 in
theorem chunk_63 : allFrom (fun j => @runF Tryz.prog hookM isTrue 500000 (startSt Tryz.prog laidL 3 [.red .i64 true 255 j, .red .i64 true 0 0])) 63 3 = true := by decide +kernel
set_option maxRecDepth 1000000 in
theorem chunk_129 : allFrom (fun j => @runF Tryz.prog hookM isTrue 500000 (startSt Tryz.prog laidL 3 [.red .i64 true 255 j, .red .i64 true 0 0])) 129 3 = true := by decide +kernel
set_option maxRecDepth 1000000 in
theorem chunk_195 : allFrom (fun j => @runF Tryz.prog hookM isTrue 500000 (startSt Tryz.prog laidL 3 [.red .i64 true 255 j, .red .i64 true 0 0])) 195 3 = true := by decide +kernel
end Go.Proofs.YtoniabaeidgglaaGreatDoor

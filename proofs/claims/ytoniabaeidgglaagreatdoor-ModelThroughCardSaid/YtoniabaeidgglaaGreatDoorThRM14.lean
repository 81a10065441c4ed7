/- Runs of the law by the evaluator, in the kernel, its 'awake' taken by its contract: it answers true in every order. No conditions. -/
import Derived.Test.YtoniabaeidgglaaGreatDoorThH
namespace Go.Proofs.YtoniabaeidgglaaGreatDoor
open Go.VM
set_option maxRecDepth 1000000 in
theorem chunk_42 : allFrom (fun j => @runF Tryz.prog hookM isTrue 500000 (startSt Tryz.prog laidL 3 [.red .i64 true 255 j, .red .i64 true 0 0])) 42 3 = true := by decide +kernel
set_option maxRecDepth 1000000 in
theorem chunk_108 : allFrom (fun j => @runF Tryz.prog hookM isTrue 500000 (startSt Tryz.prog laidL 3 [.red .i64 true 255 j, .red .i64 true 0 0])) 108 3 = true := by decide +kernel
set_option maxRecDepth 1000000 in
theorem chunk_174 : allFrom (fun j => @runF Tryz.prog hookM isTrue 500000 (startSt Tryz.prog laidL 3 [.red .i64 true 255 j, .red .i64 true 0 0])) 174 3 = true := by decide +kernel
set_option maxRecDepth 1000000 in
theorem chunk_240 : allFrom (fun j => @runF Tryz.prog hookM isTrue 500000 (startSt Tryz.prog laidL 3 [.red .i64 true 255 j, .red .i64 true 0 0])) 240 3 = true := by decide +kernel
end Go.Proofs.YtoniabaeidgglaaGreatDoor

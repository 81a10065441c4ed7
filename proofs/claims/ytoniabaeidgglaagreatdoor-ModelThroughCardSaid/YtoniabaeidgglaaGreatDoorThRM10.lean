/- Runs of the law by the evaluator, in the kernel, its 'awake' taken by its contract: it answers true in every order. No conditions. -/
import Derived.Test.YtoniabaeidgglaaGreatDoorThH
namespace Go.Proofs.YtoniabaeidgglaaGreatDoor
open Go.VM
set_option maxRecDepth 1000000 in
theorem chunk_30 : allFrom (fun j => @runF Tryz.prog hookM isTrue 500000 (startSt Tryz.prog laidL 3 [.red .i64 true 255 j, .red .i64 true 0 0])) 30 3 = true := by decide +kernel
set_option maxRecDepth 1000000 in
theorem chunk_96 : allFrom (fun j => @runF Tryz.prog hookM isTrue 500000 (startSt Tryz.prog laidL 3 [.red .i64 true 255 j, .red .i64 true 0 0])) 96 3 = true := by decide +kernel
set_option maxRecDepth 1000000 in
theorem chunk_162 : allFrom (fun j => @runF Tryz.prog hookM isTrue 500000 (startSt Tryz.prog laidL 3 [.red .i64 true 255 j, .red .i64 true 0 0])) 162 3 = true := by decide +kernel
set_option maxRecDepth 1000000 in
theorem chunk_228 : allFrom (fun j => @runF Tryz.prog hookM isTrue 500000 (startSt Tryz.prog laidL 3 [.red .i64 true 255 j, .red .i64 true 0 0])) 228 3 = true := by decide +kernel
end Go.Proofs.YtoniabaeidgglaaGreatDoor

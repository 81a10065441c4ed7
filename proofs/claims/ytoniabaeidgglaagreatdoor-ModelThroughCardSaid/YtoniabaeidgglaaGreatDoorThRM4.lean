/- Runs of the law by the evaluator, in the kernel, its 'awake' taken by its contract: it answers true in every order. No conditions. -/
import Derived.Test.YtoniabaeidgglaaGreatDoorThH
namespace Go.Proofs.YtoniabaeidgglaaGreatDoor
open Go.VM
set_option maxRecDepth 1000000 in
theorem chunk_12 : allFrom (fun j => @runF Tryz.prog hookM isTrue 500000 (startSt Tryz.prog laidL 3 [.red .i64 true 255 j, .red .i64 true 0 0])) 12 3 = true := by decide +kernel
set_option maxRecDepth 1000000 in
theorem chunk_78 : allFrom (fun j => @runF Tryz.prog hookM isTrue 500000 (startSt Tryz.prog laidL 3 [.red .i64 true 255 j, .red .i64 true 0 0])) 78 3 = true := by decide +kernel
set_option maxRecDepth 1000000 in
theorem chunk_144 : allFrom (fun j => @runF Tryz.prog hookM isTrue 500000 (startSt Tryz.prog laidL 3 [.red .i64 true 255 j, .red .i64 true 0 0])) 144 3 = true := by decide +kernel
set_option maxRecDepth 1000000 in
theorem chunk_210 : allFrom (fun j => @runF Tryz.prog hookM isTrue 500000 (startSt Tryz.prog laidL 3 [.red .i64 true 255 j, .red .i64 true 0 0])) 210 3 = true := by decide +kernel
end Go.Proofs.YtoniabaeidgglaaGreatDoor

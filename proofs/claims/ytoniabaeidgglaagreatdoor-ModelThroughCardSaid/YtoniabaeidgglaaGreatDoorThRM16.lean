/- Runs of the law by the evaluator, in the kernel, its 'awake' taken by its contract: it answers true in every order. No conditions. -/
import Derived.Test.YtoniabaeidgglaaGreatDoorThH
namespace Go.Proofs.YtoniabaeidgglaaGreatDoor
open Go.VM
set_option maxRecDepth 1000000 in
theorem chunk_48 : allFrom (fun j => @runF Tryz.prog hookM isTrue 500000 (startSt Tryz.prog laidL 3 [.red .i64 true 255 j, .red .i64 true 0 0])) 48 3 = true := by decide +kernel
set_option maxRecDepth 1000000 in
theorem chunk_114 : allFrom (fun j => @runF Tryz.prog hookM isTrue 500000 (startSt Tryz.prog laidL 3 [.red .i64 true 255 j, .red .i64 true 0 0])) 114 3 = true := by decide +kernel
set_option maxRecDepth 1000000 in
theorem chunk_180 : allFrom (fun j => @runF Tryz.prog hookM isTrue 500000 (startSt Tryz.prog laidL 3 [.red .i64 true 255 j, .red .i64 true 0 0])) 180 3 = true := by decide +kernel
set_option maxRecDepth 1000000 in
theorem chunk_246 : allFrom (fun j => @runF Tryz.prog hookM isTrue 500000 (startSt Tryz.prog laidL 3 [.red .i64 true 255 j, .red .i64 true 0 0])) 246 3 = true := by decide +kernel
end Go.Proofs.YtoniabaeidgglaaGreatDoor

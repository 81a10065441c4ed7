/- Runs of the law by the evaluator, in the kernel, its 'awake' taken by its contract: it answers true in every order. No conditions. -/
import Derived.Test.YtckbhajndplkiaaGreatDoorCwH
namespace Go.Proofs.YtckbhajndplkiaaGreatDoor
open Go.VM
set_option maxRecDepth 1000000 in
theorem chunk_12 : allFrom (fun j => @runF Tryz.prog hookM isTrue 500000 (startSt Tryz.prog laidL 7 [.red .i64 true 255 j])) 12 4 = true := by decide +kernel
set_option maxRecDepth 1000000 in
theorem chunk_44 : allFrom (fun j => @runF Tryz.prog hookM isTrue 500000 (startSt Tryz.prog laidL 7 [.red .i64 true 255 j])) 44 4 = true := by decide +kernel
set_option maxRecDepth 1000000 in
theorem chunk_76 : allFrom (fun j => @runF Tryz.prog hookM isTrue 500000 (startSt Tryz.prog laidL 7 [.red .i64 true 255 j])) 76 4 = true := by decide +kernel
set_option maxRecDepth 1000000 in
theorem chunk_108 : allFrom (fun j => @runF Tryz.prog hookM isTrue 500000 (startSt Tryz.prog laidL 7 [.red .i64 true 255 j])) 108 4 = true := by decide +kernel
set_option maxRecDepth 1000000 in
theorem chunk_140 : allFrom (fun j => @runF Tryz.prog hookM isTrue 500000 (startSt Tryz.prog laidL 7 [.red .i64 true 255 j])) 140 4 = true := by decide +kernel
set_option maxRecDepth 1000000 in
theorem chunk_172 : allFrom (fun j => @runF Tryz.prog hookM isTrue 500000 (startSt Tryz.prog laidL 7 [.red .i64 true 255 j])) 172 4 = true := by decide +kernel
set_option maxRecDepth 1000000 in
theorem chunk_204 : allFrom (fun j => @runF Tryz.prog hookM isTrue 500000 (startSt Tryz.prog laidL 7 [.red .i64 true 255 j])) 204 4 = true := by decide +kernel
set_option maxRecDepth 1000000 in
theorem chunk_236 : allFrom (fun j => @runF Tryz.prog hookM isTrue 500000 (startSt Tryz.prog laidL 7 [.red .i64 true 255 j])) 236 4 = true := by decide +kernel
end Go.Proofs.YtckbhajndplkiaaGreatDoor

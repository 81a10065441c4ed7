/- Runs of the law by the evaluator, in the kernel, its 'awake' taken by its contract: it answers true in every order. No conditions. -/
import Derived.Test.YtckbhajndplkiaaGreatDoorCwH
namespace Go.Proofs.YtckbhajndplkiaaGreatDoor
open Go.VM
set_option maxRecDepth 1000000 in
theorem chunk_28 : allFrom (fun j => @runF Tryz.prog hookM isTrue 500000 (startSt Tryz.prog laidL 7 [.red .i64 true 255 j])) 28 4 = true := by decide +kernel
set_option maxRecDepth 1000000 in
theorem chunk_60 : allFrom (fun j => @runF Tryz.prog hookM isTrue 500000 (startSt Tryz.prog laidL 7 [.red .i64 true 255 j])) 60 4 = true := by decide +kernel
set_option maxRecDepth 1000000 in
theorem chunk_92 : allFrom (fun j => @runF Tryz.prog hookM isTrue 500000 (startSt Tryz.prog laidL 7 [.red .i64 true 255 j])) 92 4 = true := by decide +kernel
set_option maxRecDepth 1000000 in
theorem chunk_124 : allFrom (fun j => @runF Tryz.prog hookM isTrue 500000 (startSt Tryz.prog laidL 7 [.red .i64 true 255 j])) 124 4 = true := by decide +kernel
set_option maxRecDepth 1000000 in
theorem chunk_156 : allFrom (fun j => @runF Tryz.prog hookM isTrue 500000 (startSt Tryz.prog laidL 7 [.red .i64 true 255 j])) 156 4 = true := by decide +kernel
set_option maxRecDepth 1000000 in
theorem chunk_188 : allFrom (fun j => @runF Tryz.prog hookM isTrue 500000 (startSt Tryz.prog laidL 7 [.red .i64 true 255 j])) 188 4 = true := by decide +kernel
set_option maxRecDepth 1000000 in
theorem chunk_220 : allFrom (fun j => @runF Tryz.prog hookM isTrue 500000 (startSt Tryz.prog laidL 7 [.red .i64 true 255 j])) 220 4 = true := by decide +kernel
set_option maxRecDepth 1000000 in
theorem chunk_252 : allFrom (fun j => @runF Tryz.prog hookM isTrue 500000 (startSt Tryz.prog laidL 7 [.red .i64 true 255 j])) 252 4 = true := by decide +kernel
end Go.Proofs.YtckbhajndplkiaaGreatDoor

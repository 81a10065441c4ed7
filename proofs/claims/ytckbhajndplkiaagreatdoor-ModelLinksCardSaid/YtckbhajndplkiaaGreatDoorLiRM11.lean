/- Runs of the law by the evaluator, in the kernel, its 'awake' taken by its contract: it answers true in every order. No conditions. -/
import Derived.Test.YtckbhajndplkiaaGreatDoorLiH
namespace Go.Proofs.YtckbhajndplkiaaGreatDoor
open Go.VM
set_option maxRecDepth 1000000 in
theorem chunk_22 : allFrom (fun j => @runF Tryz.prog hookM isTrue 500000 (startSt Tryz.prog laidL 4 [.red .i64 true 0 0, .red .i64 true 255 j])) 22 2 = true := by decide +kernel
set_option maxRecDepth 1000000 in
theorem chunk_46 : allFrom (fun j => @runF Tryz.prog hookM isTrue 500000 (startSt Tryz.prog laidL 4 [.red .i64 true 0 0, .red .i64 true 255 j])) 46 2 = true := by decide +kernel
set_option maxRecDepth 1000000 in
theorem chunk_70 : allFrom (fun j => @runF Tryz.prog hookM isTrue 500000 (startSt Tryz.prog laidL 4 [.red .i64 true 0 0, .red .i64 true 255 j])) 70 2 = true := by decide +kernel
set_option maxRecDepth 1000000 in
theorem chunk_94 : allFrom (fun j => @runF Tryz.prog hookM isTrue 500000 (startSt Tryz.prog laidL 4 [.red .i64 true 0 0, .red .i64 true 255 j])) 94 2 = true := by decide +kernel
set_option maxRecDepth 1000000 in
theorem chunk_118 : allFrom (fun j => @runF Tryz.prog hookM isTrue 500000 (startSt Tryz.prog laidL 4 [.red .i64 true 0 0, .red .i64 true 255 j])) 118 2 = true := by decide +kernel
set_option maxRecDepth 1000000 in
theorem chunk_142 : allFrom (fun j => @runF Tryz.prog hookM isTrue 500000 (startSt Tryz.prog laidL 4 [.red .i64 true 0 0, .red .i64 true 255 j])) 142 2 = true := by decide +kernel
set_option maxRecDepth 1000000 in
theorem chunk_166 : allFrom (fun j => @runF Tryz.prog hookM isTrue 500000 (startSt Tryz.prog laidL 4 [.red .i64 true 0 0, .red .i64 true 255 j])) 166 2 = true := by decide +kernel
set_option maxRecDepth 1000000 in
theorem chunk_190 : allFrom (fun j => @runF Tryz.prog hookM isTrue 500000 (startSt Tryz.prog laidL 4 [.red .i64 true 0 0, .red .i64 true 255 j])) 190 2 = true := by decide +kernel
set_option maxRecDepth 1000000 in
theorem chunk_214 : allFrom (fun j => @runF Tryz.prog hookM isTrue 500000 (startSt Tryz.prog laidL 4 [.red .i64 true 0 0, .red .i64 true 255 j])) 214 2 = true := by decide +kernel
set_option maxRecDepth 1000000 in
theorem chunk_238 : allFrom (fun j => @runF Tryz.prog hookM isTrue 500000 (startSt Tryz.prog laidL 4 [.red .i64 true 0 0, .red .i64 true 255 j])) 238 2 = true := by decide +kernel
end Go.Proofs.YtckbhajndplkiaaGreatDoor

/- Runs of the law by the evaluator, in the kernel, its 'awake' taken by its contract: it answers true in every order. No conditions. -/
import Derived.Test.YtckbhajndplkiaaGreatDoorLiH
namespace Go.Proofs.YtckbhajndplkiaaGreatDoor
open Go.VM
set_option maxRecDepth 1000000 in
theorem chunk_6 : allFrom (fun j => @runF Tryz.prog hookM isTrue 500000 (startSt Tryz.prog laidL 4 [.red .i64 true 0 0, .red .i64 true 255 j])) 6 2 = true := by decide +kernel
set_option maxRecDepth 1000000 in
theorem chunk_30 : allFrom (fun j => @runF Tryz.prog hookM isTrue 500000 (startSt Tryz.prog laidL 4 [.red .i64 true 0 0, .red .i64 true 255 j])) 30 2 = true := by decide +kernel
set_option maxRecDepth 1000000 in
theorem chunk_54 : allFrom (fun j => @runF Tryz.prog hookM isTrue 500000 (startSt Tryz.prog laidL 4 [.red .i64 true 0 0, .red .i64 true 255 j])) 54 2 = true := by decide +kernel
set_option maxRecDepth 1000000 in
theorem chunk_78 : allFrom (fun j => @runF Tryz.prog hookM isTrue 500000 (startSt Tryz.prog laidL 4 [.red .i64 true 0 0, .red .i64 true 255 j])) 78 2 = true := by decide +kernel
set_option maxRecDepth 1000000 in
theorem chunk_102 : allFrom (fun j => @runF Tryz.prog hookM isTrue 500000 (startSt Tryz.prog laidL 4 [.red .i64 true 0 0, .red .i64 true 255 j])) 102 2 = true := by decide +kernel
set_option maxRecDepth 1000000 in
theorem chunk_126 : allFrom (fun j => @runF Tryz.prog hookM isTrue 500000 (startSt Tryz.prog laidL 4 [.red .i64 true 0 0, .red .i64 true 255 j])) 126 2 = true := by decide +kernel
set_option maxRecDepth 1000000 in
theorem chunk_150 : allFrom (fun j => @runF Tryz.prog hookM isTrue 500000 (startSt Tryz.prog laidL 4 [.red .i64 true 0 0, .red .i64 true 255 j])) 150 2 = true := by decide +kernel
set_option maxRecDepth 1000000 in
theorem chunk_174 : allFrom (fun j => @runF Tryz.prog hookM isTrue 500000 (startSt Tryz.prog laidL 4 [.red .i64 true 0 0, .red .i64 true 255 j])) 174 2 = true := by decide +kernel
set_option maxRecDepth 1000000 in
theorem chunk_198 : allFrom (fun j => @runF Tryz.prog hookM isTrue 500000 (startSt Tryz.prog laidL 4 [.red .i64 true 0 0, .red .i64 true 255 j])) 198 2 = true := by decide +kernel
set_option maxRecDepth 1000000 in
theorem chunk_222 : allFrom (fun j => @runF Tryz.prog hookM isTrue 500000 (startSt Tryz.prog laidL 4 [.red .i64 true 0 0, .red .i64 true 255 j])) 222 2 = true := by decide +kernel
set_option maxRecDepth 1000000 in
theorem chunk_246 : allFrom (fun j => @runF Tryz.prog hookM isTrue 500000 (startSt Tryz.prog laidL 4 [.red .i64 true 0 0, .red .i64 true 255 j])) 246 2 = true := by decide +kernel
end Go.Proofs.YtckbhajndplkiaaGreatDoor

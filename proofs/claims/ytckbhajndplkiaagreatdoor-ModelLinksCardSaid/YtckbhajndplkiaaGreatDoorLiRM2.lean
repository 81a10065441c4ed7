/- Runs of the law by the evaluator, in the kernel, its 'awake' taken by its contract: it answers true in every order. No conditions. -/
import Derived.Test.YtckbhajndplkiaaGreatDoorLiH
namespace Go.Proofs.YtckbhajndplkiaaGreatDoor
open Go.VM
set_option maxRecDepth 1000000 in
theorem chunk_4 : allFrom (fun j => @runF Tryz.prog hookM isTrue 500000 (startSt Tryz.prog laidL 4 [.red .i64 true 0 0, .red .i64 true 255 j])) 4 2 = true := by decide +kernel
set_option maxRecDepth 1000000 in
theorem chunk_28 : allFrom (fun j => @runF Tryz.prog hookM isTrue 500000 (startSt Tryz.prog laidL 4 [.red .i64 true 0 0, .red .i64 true 255 j])) 28 2 = true := by decide +kernel
set_option maxRecDepth 1000000 in
theorem chunk_52 : allFrom (fun j => @runF Tryz.prog hookM isTrue 500000 (startSt Tryz.prog laidL 4 [.red .i64 true 0 0, .red .i64 true 255 j])) 52 2 = true := by decide +kernel
set_option maxRecDepth 1000000 in
theorem chunk_76 : allFrom (fun j => @runF Tryz.prog hookM isTrue 500000 (startSt Tryz.prog laidL 4 [.red .i64 true 0 0, .red .i64 true 255 j])) 76 2 = true := by decide +kernel
set_option maxRecDepth 1000000 in
theorem chunk_100 : allFrom (fun j => @runF Tryz.prog hookM isTrue 500000 (startSt Tryz.prog laidL 4 [.red .i64 true 0 0, .red .i64 true 255 j])) 100 2 = true := by decide +kernel
set_option maxRecDepth 1000000 in
theorem chunk_124 : allFrom (fun j => @runF Tryz.prog hookM isTrue 500000 (startSt Tryz.prog laidL 4 [.red .i64 true 0 0, .red .i64 true 255 j])) 124 2 = true := by decide +kernel
set_option maxRecDepth 1000000 in
theorem chunk_148 : allFrom (fun j => @runF Tryz.prog hookM isTrue 500000 (startSt Tryz.prog laidL 4 [.red .i64 true 0 0, .red .i64 true 255 j])) 148 2 = true := by decide +kernel
set_option maxRecDepth 1000000 in
theorem chunk_172 : allFrom (fun j => @runF Tryz.prog hookM isTrue 500000 (startSt Tryz.prog laidL 4 [.red .i64 true 0 0, .red .i64 true 255 j])) 172 2 = true := by decide +kernel
set_option maxRecDepth 1000000 in
theorem chunk_196 : allFrom (fun j => @runF Tryz.prog hookM isTrue 500000 (startSt Tryz.prog laidL 4 [.red .i64 true 0 0, .red .i64 true 255 j])) 196 2 = true := by decide +kernel
set_option maxRecDepth 1000000 in
theorem chunk_220 : allFrom (fun j => @runF Tryz.prog hookM isTrue 500000 (startSt Tryz.prog laidL 4 [.red .i64 true 0 0, .red .i64 true 255 j])) 220 2 = true := by decide +kernel
set_option maxRecDepth 1000000 in
theorem chunk_244 : allFrom (fun j => @runF Tryz.prog hookM isTrue 500000 (startSt Tryz.prog laidL 4 [.red .i64 true 0 0, .red .i64 true 255 j])) 244 2 = true := by decide +kernel
end Go.Proofs.YtckbhajndplkiaaGreatDoor

/- Runs of the law by the evaluator, in the kernel, its 'awake' taken by its contract: it answers true in every order. No conditions. -/
import Derived.Test.YtckbhajndplkiaaGreatDoorLiH
namespace Go.Proofs.YtckbhajndplkiaaGreatDoor
open Go.VM
set_option maxRecDepth 1000000 in
theorem chunk_12 : allFrom (fun j => @runF Tryz.prog hookM isTrue 500000 (startSt Tryz.prog laidL 4 [.red .i64 true 0 0, .red .i64 true 255 j])) 12 2 = true := by decide +kernel
set_option maxRecDepth 1000000 in
theorem chunk_36 : allFrom (fun j => @runF Tryz.prog hookM isTrue 500000 (startSt Tryz.prog laidL 4 [.red .i64 true 0 0, .red .i64 true 255 j])) 36 2 = true := by decide +kernel
set_option maxRecDepth 1000000 in
theorem chunk_60 : allFrom (fun j => @runF Tryz.prog hookM isTrue 500000 (startSt Tryz.prog laidL 4 [.red .i64 true 0 0, .red .i64 true 255 j])) 60 2 = true := by decide +kernel
set_option maxRecDepth 1000000 in
theorem chunk_84 : allFrom (fun j => @runF Tryz.prog hookM isTrue 500000 (startSt Tryz.prog laidL 4 [.red .i64 true 0 0, .red .i64 true 255 j])) 84 2 = true := by decide +kernel
set_option maxRecDepth 1000000 in
theorem chunk_108 : allFrom (fun j => @runF Tryz.prog hookM isTrue 500000 (startSt Tryz.prog laidL 4 [.red .i64 true 0 0, .red .i64 true 255 j])) 108 2 = true := by decide +kernel
set_option maxRecDepth 1000000 in
theorem chunk_132 : allFrom (fun j => @runF Tryz.prog hookM isTrue 500000 (startSt Tryz.prog laidL 4 [.red .i64 true 0 0, .red .i64 true 255 j])) 132 2 = true := by decide +kernel
set_option maxRecDepth 1000000 in
theorem chunk_156 : allFrom (fun j => @runF Tryz.prog hookM isTrue 500000 (startSt Tryz.prog laidL 4 [.red .i64 true 0 0, .red .i64 true 255 j])) 156 2 = true := by decide +kernel
set_option maxRecDepth 1000000 in
theorem chunk_180 : allFrom (fun j => @runF Tryz.prog hookM isTrue 500000 (startSt Tryz.prog laidL 4 [.red .i64 true 0 0, .red .i64 true 255 j])) 180 2 = true := by decide +kernel
set_option maxRecDepth 1000000 in
theorem chunk_204 : allFrom (fun j => @runF Tryz.prog hookM isTrue 500000 (startSt Tryz.prog laidL 4 [.red .i64 true 0 0, .red .i64 true 255 j])) 204 2 = true := by decide +kernel
set_option maxRecDepth 1000000 in
theorem chunk_228 : allFrom (fun j => @runF Tryz.prog hookM isTrue 500000 (startSt Tryz.prog laidL 4 [.red .i64 true 0 0, .red .i64 true 255 j])) 228 2 = true := by decide +kernel
set_option maxRecDepth 1000000 in
theorem chunk_252 : allFrom (fun j => @runF Tryz.prog hookM isTrue 500000 (startSt Tryz.prog laidL 4 [.red .i64 true 0 0, .red .i64 true 255 j])) 252 2 = true := by decide +kernel
end Go.Proofs.YtckbhajndplkiaaGreatDoor

/- Runs of the law by the evaluator, in the kernel, its 'awake' taken by its contract: it answers true in every order. No conditions. -/
import Derived.Test.YtckbhajndplkiaaGreatDoorLiH
namespace Go.Proofs.YtckbhajndplkiaaGreatDoor
open Go.VM
set_option maxRecDepth 1000000 in
theorem chunk_20 : allFrom (fun j => @runF Tryz.prog hookM isTrue 500000 (startSt Tryz.prog laidL 4 [.red .i64 true 0 0, .red .i64 true 255 j])) 20 2 = true := by decide +kernel
set_option maxRecDepth 1000000 in
theorem chunk_44 : allFrom (fun j => @runF Tryz.prog hookM isTrue 500000 (startSt Tryz.prog laidL 4 [.red .i64 true 0 0, .red .i64 true 255 j])) 44 2 = true := by decide +kernel
set_option maxRecDepth 1000000 in
theorem chunk_68 : allFrom (fun j => @runF Tryz.prog hookM isTrue 500000 (startSt Tryz.prog laidL 4 [.red .i64 true 0 0, .red .i64 true 255 j])) 68 2 = true := by decide +kernel
set_option maxRecDepth 1000000 in
theorem chunk_92 : allFrom (fun j => @runF Tryz.prog hookM isTrue 500000 (startSt Tryz.prog laidL 4 [.red .i64 true 0 0, .red .i64 true 255 j])) 92 2 = true := by decide +kernel
set_option maxRecDepth 1000000 in
theorem chunk_116 : allFrom (fun j => @runF Tryz.prog hookM isTrue 500000 (startSt Tryz.prog laidL 4 [.red .i64 true 0 0, .red .i64 true 255 j])) 116 2 = true := by decide +kernel
set_option maxRecDepth 1000000 in
theorem chunk_140 : allFrom (fun j => @runF Tryz.prog hookM isTrue 500000 (startSt Tryz.prog laidL 4 [.red .i64 true 0 0, .red .i64 true 255 j])) 140 2 = true := by decide +kernel
set_option maxRecDepth 1000000 in
theorem chunk_164 : allFrom (fun j => @runF Tryz.prog hookM isTrue 500000 (startSt Tryz.prog laidL 4 [.red .i64 true 0 0, .red .i64 true 255 j])) 164 2 = true := by decide +kernel
set_option maxRecDepth 1000000 in
theorem chunk_188 : allFrom (fun j => @runF Tryz.prog hookM isTrue 500000 (startSt Tryz.prog laidL 4 [.red .i64 true 0 0, .red .i64 true 255 j])) 188 2 = true := by decide +kernel
set_option maxRecDepth 1000000 in
theorem chunk_212 : allFrom (fun j => @runF Tryz.prog hookM isTrue 500000 (startSt Tryz.prog laidL 4 [.red .i64 true 0 0, .red .i64 true 255 j])) 212 2 = true := by decide +kernel
set_option maxRecDepth 1000000 in
theorem chunk_236 : allFrom (fun j => @runF Tryz.prog hookM isTrue 500000 (startSt Tryz.prog laidL 4 [.red .i64 true 0 0, .red .i64 true 255 j])) 236 2 = true := by decide +kernel
end Go.Proofs.YtckbhajndplkiaaGreatDoor

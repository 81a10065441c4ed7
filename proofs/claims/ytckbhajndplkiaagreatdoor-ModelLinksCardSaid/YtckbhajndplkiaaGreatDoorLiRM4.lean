/- Runs of the law by the evaluator, in the kernel, its 'awake' taken by its contract: it answers true in every order. No conditions. -/
import Derived.Test.YtckbhajndplkiaaGreatDoorLiH
namespace Go.Proofs.YtckbhajndplkiaaGreatDoor
open Go.VM
set_option maxRecDepth 1000000 in
theorem chunk_8 : allFrom (fun j => @runF Tryz.prog hookM isTrue 500000 (startSt Tryz.prog laidL 4 [.red .i64 true 0 0, .red .i64 true 255 j])) 8 2 = true := by decide +kernel
set_option maxRecDepth 1000000 in
theorem chunk_32 : allFrom (fun j => @runF Tryz.prog hookM isTrue 500000 (startSt Tryz.prog laidL 4 [.red .i64 true 0 0, .red .i64 true 255 j])) 32 2 = true := by decide +kernel
set_option maxRecDepth 1000000 in
theorem chunk_56 : allFrom (fun j => @runF Tryz.prog hookM isTrue 500000 (startSt Tryz.prog laidL 4 [.red .i64 true 0 0, .red .i64 true 255 j])) 56 2 = true := by decide +kernel
set_option maxRecDepth 1000000 in
theorem chunk_80 : allFrom (fun j => @runF Tryz.prog hookM isTrue 500000 (startSt Tryz.prog laidL 4 [.red .i64 true 0 0, .red .i64 true 255 j])) 80 2 = true := by decide +kernel
set_option maxRecDepth 1000000 in
theorem chunk_104 : allFrom (fun j => @runF Tryz.prog hookM isTrue 500000 (startSt Tryz.prog laidL 4 [.red .i64 true 0 0, .red .i64 true 255 j])) 104 2 = true := by decide +kernel
set_option maxRecDepth 1000000 in
theorem chunk_128 : allFrom (fun j => @runF Tryz.prog hookM isTrue 500000 (startSt Tryz.prog laidL 4 [.red .i64 true 0 0, .red .i64 true 255 j])) 128 2 = true := by decide +kernel
set_option maxRecDepth 1000000 in
theorem chunk_152 : allFrom (fun j => @runF Tryz.prog hookM isTrue 500000 (startSt Tryz.prog laidL 4 [.red .i64 true 0 0, .red .i64 true 255 j])) 152 2 = true := by decide +kernel
set_option maxRecDepth 1000000 in
theorem chunk_176 : allFrom (fun j => @runF Tryz.prog hookM isTrue 500000 (startSt Tryz.prog laidL 4 [.red .i64 true 0 0, .red .i64 true 255 j])) 176 2 = true := by decide +kernel
set_option maxRecDepth 1000000 in
theorem chunk_200 : allFrom (fun j => @runF Tryz.prog hookM isTrue 500000 (startSt Tryz.prog laidL 4 [.red .i64 true 0 0, .red .i64 true 255 j])) 200 2 = true := by decide +kernel
set_option maxRecDepth 1000000 in
theorem chunk_224 : allFrom (fun j => @runF Tryz.prog hookM isTrue 500000 (startSt Tryz.prog laidL 4 [.red .i64 true 0 0, .red .i64 true 255 j])) 224 2 = true := by decide +kernel
set_option maxRecDepth 1000000 in
theorem chunk_248 : allFrom (fun j => @runF Tryz.prog hookM isTrue 500000 (startSt Tryz.prog laidL 4 [.red .i64 true 0 0, .red .i64 true 255 j])) 248 2 = true := by decide +kernel
end Go.Proofs.YtckbhajndplkiaaGreatDoor

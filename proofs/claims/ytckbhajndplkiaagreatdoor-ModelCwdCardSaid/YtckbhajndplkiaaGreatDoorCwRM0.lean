/- Runs of the law by the evaluator, in the kernel, its 'awake' taken by its contract: it answers true in every order. No conditions. -/
import Derived.Test.YtckbhajndplkiaaGreatDoorCwH
namespace Go.Proofs.YtckbhajndplkiaaGreatDoor
open Go.VM
set_option maxRecDepth 1000000 in
theorem chunk_0 : allFrom (fun j => @runF Tryz.prog hookM isTrue 500000 (startSt Tryz.prog laidL 7 [.red .i64 true 255 j])) 0 4 = true := by decide +kernel
set_option maxRecDepth 1000000 in
theorem chunk_32 : allFrom (fun j => @runF Tryz.prog hookM isTrue 500000 (startSt Tryz.prog laidL 7 [.red .i64 true 255 j])) 32 4 = true := by decide +kernel
set_option maxRecDepth 1000000 in
theorem chunk_64 : allFrom (fun j => @runF Tryz.prog hookM isTrue 500000 (startSt Tryz.prog laidL 7 [.red .i64 true 255 j])) 64 4 = true := by decide +kernel
set_option maxRecDepth 1000000 in
theorem chunk_96 : allFrom (fun j => @runF Tryz.prog hookM isTrue 500000 (startSt Tryz.prog laidL 7 [.red .i64 true 255 j])) 96 4 = true := by decide +kernel
set_option maxRecDepth 1000000 in
theorem chunk_128 : allFrom (fun j => @runF Tryz.prog hookM isTrue 500000 (startSt Tryz.prog laidL 7 [.red .i64 true 255 j])) 128 4 = true := by decide +kernel
set_option maxRecDepth 1000000 in
theorem chunk_160 : allFrom (fun j => @runF Tryz.prog hookM isTrue 500000 (startSt Tryz.prog laidL 7 [.red .i64 true 255 j])) 160 4 = true := by decide +kernel
set_option maxRecDepth 1000000 in
theorem chunk_192 : allFrom (fun j => @runF Tryz.prog hookM isTrue 500000 (startSt Tryz.prog laidL 7 [.red .i64 true 255 j])) 192 4 = true := by decide +kernel
set_option maxRecDepth 1000000 in
theorem chunk_224 : allFrom (fun j => @runF Tryz.prog hookM isTrue 500000 (startSt Tryz.prog laidL 7 [.red .i64 true 255 j])) 224 4 = true := by decide +kernel
end Go.Proofs.YtckbhajndplkiaaGreatDoor

/- Runs of the law by the evaluator, in the kernel, its 'awake' taken by its contract: it answers true in every order. No conditions. -/
import Derived.Test.YtckbhajndplkiaaGreatDoorMoH
namespace Go.Proofs.YtckbhajndplkiaaGreatDoor
open Go.VM
set_option maxRecDepth 1000000 in
theorem chunk_32 : allFrom (fun j => @runF Tryz.prog hookM isTrue 500000 (startSt Tryz.prog laidL 6 [.red .i64 true 511 j])) 32 8 = true := by decide +kernel
set_option maxRecDepth 1000000 in
theorem chunk_96 : allFrom (fun j => @runF Tryz.prog hookM isTrue 500000 (startSt Tryz.prog laidL 6 [.red .i64 true 511 j])) 96 8 = true := by decide +kernel
set_option maxRecDepth 1000000 in
theorem chunk_160 : allFrom (fun j => @runF Tryz.prog hookM isTrue 500000 (startSt Tryz.prog laidL 6 [.red .i64 true 511 j])) 160 8 = true := by decide +kernel
set_option maxRecDepth 1000000 in
theorem chunk_224 : allFrom (fun j => @runF Tryz.prog hookM isTrue 500000 (startSt Tryz.prog laidL 6 [.red .i64 true 511 j])) 224 8 = true := by decide +kernel
set_option maxRecDepth 1000000 in
theorem chunk_288 : allFrom (fun j => @runF Tryz.prog hookM isTrue 500000 (startSt Tryz.prog laidL 6 [.red .i64 true 511 j])) 288 8 = true := by decide +kernel
set_option maxRecDepth 1000000 in
theorem chunk_352 : allFrom (fun j => @runF Tryz.prog hookM isTrue 500000 (startSt Tryz.prog laidL 6 [.red .i64 true 511 j])) 352 8 = true := by decide +kernel
set_option maxRecDepth 1000000 in
theorem chunk_416 : allFrom (fun j => @runF Tryz.prog hookM isTrue 500000 (startSt Tryz.prog laidL 6 [.red .i64 true 511 j])) 416 8 = true := by decide +kernel
set_option maxRecDepth 1000000 in
theorem chunk_480 : allFrom (fun j => @runF Tryz.prog hookM isTrue 500000 (startSt Tryz.prog laidL 6 [.red .i64 true 511 j])) 480 8 = true := by decide +kernel
end Go.Proofs.YtckbhajndplkiaaGreatDoor

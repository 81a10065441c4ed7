/- Runs of the law by the evaluator, in the kernel, its 'awake' taken by its contract: it answers true in every order. No conditions. -/
import Derived.Test.YtckbhajndplkiaaGreatDoorMoH
namespace Go.Proofs.YtckbhajndplkiaaGreatDoor
open Go.VM
set_option maxRecDepth 1000000 in
theorem chunk_0 : allFrom (fun j => @runF Tryz.prog hookM isTrue 500000 (startSt Tryz.prog laidL 6 [.red .i64 true 511 j])) 0 8 = true := by decide +kernel
set_option maxRecDepth 1000000 in
theorem chunk_64 : allFrom (fun j => @runF Tryz.prog hookM isTrue 500000 (startSt Tryz.prog laidL 6 [.red .i64 true 511 j])) 64 8 = true := by decide +kernel
set_option maxRecDepth 1000000 in
theorem chunk_128 : allFrom (fun j => @runF Tryz.prog hookM isTrue 500000 (startSt Tryz.prog laidL 6 [.red .i64 true 511 j])) 128 8 = true := by decide +kernel
set_option maxRecDepth 1000000 in
theorem chunk_192 : allFrom (fun j => @runF Tryz.prog hookM isTrue 500000 (startSt Tryz.prog laidL 6 [.red .i64 true 511 j])) 192 8 = true := by decide +kernel
set_option maxRecDepth 1000000 in
theorem chunk_256 : allFrom (fun j => @runF Tryz.prog hookM isTrue 500000 (startSt Tryz.prog laidL 6 [.red .i64 true 511 j])) 256 8 = true := by decide +kernel
set_option maxRecDepth 1000000 in
theorem chunk_320 : allFrom (fun j => @runF Tryz.prog hookM isTrue 500000 (startSt Tryz.prog laidL 6 [.red .i64 true 511 j])) 320 8 = true := by decide +kernel
set_option maxRecDepth 1000000 in
theorem chunk_384 : allFrom (fun j => @runF Tryz.prog hookM isTrue 500000 (startSt Tryz.prog laidL 6 [.red .i64 true 511 j])) 384 8 = true := by decide +kernel
set_option maxRecDepth 1000000 in
theorem chunk_448 : allFrom (fun j => @runF Tryz.prog hookM isTrue 500000 (startSt Tryz.prog laidL 6 [.red .i64 true 511 j])) 448 8 = true := by decide +kernel
end Go.Proofs.YtckbhajndplkiaaGreatDoor

/- Runs of the law by the evaluator, in the kernel, its 'awake' taken by its contract: it answers true in every order. No conditions. -/
import Derived.Test.YtckbhajndplkiaaGreatDoorMoH
namespace Go.Proofs.YtckbhajndplkiaaGreatDoor
open Go.VM
set_option maxRecDepth 1000000 in
theorem chunk_8 : allFrom (fun j => @runF Tryz.prog hookM isTrue 500000 (startSt Tryz.prog laidL 6 [.red .i64 true 511 j])) 8 8 = true := by decide +kernel
set_option maxRecDepth 1000000 in
theorem chunk_72 : allFrom (fun j => @runF Tryz.prog hookM isTrue 500000 (startSt Tryz.prog laidL 6 [.red .i64 true 511 j])) 72 8 = true := by decide +kernel
set_option maxRecDepth 1000000 in
theorem chunk_136 : allFrom (fun j => @runF Tryz.prog hookM isTrue 500000 (startSt Tryz.prog laidL 6 [.red .i64 true 511 j])) 136 8 = true := by decide +kernel
set_option maxRecDepth 1000000 in
theorem chunk_200 : allFrom (fun j => @runF Tryz.prog hookM isTrue 500000 (startSt Tryz.prog laidL 6 [.red .i64 true 511 j])) 200 8 = true := by decide +kernel
set_option maxRecDepth 1000000 in
theorem chunk_264 : allFrom (fun j => @runF Tryz.prog hookM isTrue 500000 (startSt Tryz.prog laidL 6 [.red .i64 true 511 j])) 264 8 = true := by decide +kernel
set_option maxRecDepth 1000000 in
theorem chunk_328 : allFrom (fun j => @runF Tryz.prog hookM isTrue 500000 (startSt Tryz.prog laidL 6 [.red .i64 true 511 j])) 328 8 = true := by decide +kernel
set_option maxRecDepth 1000000 in
theorem chunk_392 : allFrom (fun j => @runF Tryz.prog hookM isTrue 500000 (startSt Tryz.prog laidL 6 [.red .i64 true 511 j])) 392 8 = true := by decide +kernel
set_option maxRecDepth 1000000 in
theorem chunk_456 : allFrom (fun j => @runF Tryz.prog hookM isTrue 500000 (startSt Tryz.prog laidL 6 [.red .i64 true 511 j])) 456 8 = true := by decide +kernel
end Go.Proofs.YtckbhajndplkiaaGreatDoor

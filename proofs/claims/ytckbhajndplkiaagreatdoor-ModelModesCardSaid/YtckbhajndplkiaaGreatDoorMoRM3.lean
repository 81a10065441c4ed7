/- Runs of the law by the evaluator, in the kernel, its 'awake' taken by its contract: it answers true in every order. No conditions. -/
import Derived.Test.YtckbhajndplkiaaGreatDoorMoH
namespace Go.Proofs.YtckbhajndplkiaaGreatDoor
open Go.VM
set_option maxRecDepth 1000000 in
theorem chunk_24 : allFrom (fun j => @runF Tryz.prog hookM isTrue 500000 (startSt Tryz.prog laidL 6 [.red .i64 true 511 j])) 24 8 = true := by decide +kernel
set_option maxRecDepth 1000000 in
theorem chunk_88 : allFrom (fun j => @runF Tryz.prog hookM isTrue 500000 (startSt Tryz.prog laidL 6 [.red .i64 true 511 j])) 88 8 = true := by decide +kernel
set_option maxRecDepth 1000000 in
theorem chunk_152 : allFrom (fun j => @runF Tryz.prog hookM isTrue 500000 (startSt Tryz.prog laidL 6 [.red .i64 true 511 j])) 152 8 = true := by decide +kernel
set_option maxRecDepth 1000000 in
theorem chunk_216 : allFrom (fun j => @runF Tryz.prog hookM isTrue 500000 (startSt Tryz.prog laidL 6 [.red .i64 true 511 j])) 216 8 = true := by decide +kernel
set_option maxRecDepth 1000000 in
theorem chunk_280 : allFrom (fun j => @runF Tryz.prog hookM isTrue 500000 (startSt Tryz.prog laidL 6 [.red .i64 true 511 j])) 280 8 = true := by decide +kernel
set_option maxRecDepth 1000000 in
theorem chunk_344 : allFrom (fun j => @runF Tryz.prog hookM isTrue 500000 (startSt Tryz.prog laidL 6 [.red .i64 true 511 j])) 344 8 = true := by decide +kernel
set_option maxRecDepth 1000000 in
theorem chunk_408 : allFrom (fun j => @runF Tryz.prog hookM isTrue 500000 (startSt Tryz.prog laidL 6 [.red .i64 true 511 j])) 408 8 = true := by decide +kernel
set_option maxRecDepth 1000000 in
theorem chunk_472 : allFrom (fun j => @runF Tryz.prog hookM isTrue 500000 (startSt Tryz.prog laidL 6 [.red .i64 true 511 j])) 472 8 = true := by decide +kernel
end Go.Proofs.YtckbhajndplkiaaGreatDoor

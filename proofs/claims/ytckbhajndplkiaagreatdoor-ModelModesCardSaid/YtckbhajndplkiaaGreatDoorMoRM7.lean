/- Runs of the law by the evaluator, in the kernel, its 'awake' taken by its contract: it answers true in every order. No conditions. -/
import Derived.Test.YtckbhajndplkiaaGreatDoorMoH
namespace Go.Proofs.YtckbhajndplkiaaGreatDoor
open Go.VM
set_option maxRecDepth 1000000 in
theorem chunk_56 : allFrom (fun j => @runF Tryz.prog hookM isTrue 500000 (startSt Tryz.prog laidL 6 [.red .i64 true 511 j])) 56 8 = true := by decide +kernel
set_option maxRecDepth 1000000 in
theorem chunk_120 : allFrom (fun j => @runF Tryz.prog hookM isTrue 500000 (startSt Tryz.prog laidL 6 [.red .i64 true 511 j])) 120 8 = true := by decide +kernel
set_option maxRecDepth 1000000 in
theorem chunk_184 : allFrom (fun j => @runF Tryz.prog hookM isTrue 500000 (startSt Tryz.prog laidL 6 [.red .i64 true 511 j])) 184 8 = true := by decide +kernel
set_option maxRecDepth 1000000 in
theorem chunk_248 : allFrom (fun j => @runF Tryz.prog hookM isTrue 500000 (startSt Tryz.prog laidL 6 [.red .i64 true 511 j])) 248 8 = true := by decide +kernel
set_option maxRecDepth 1000000 in
theorem chunk_312 : allFrom (fun j => @runF Tryz.prog hookM isTrue 500000 (startSt Tryz.prog laidL 6 [.red .i64 true 511 j])) 312 8 = true := by decide +kernel
set_option maxRecDepth 1000000 in
theorem chunk_376 : allFrom (fun j => @runF Tryz.prog hookM isTrue 500000 (startSt Tryz.prog laidL 6 [.red .i64 true 511 j])) 376 8 = true := by decide +kernel
set_option maxRecDepth 1000000 in
theorem chunk_440 : allFrom (fun j => @runF Tryz.prog hookM isTrue 500000 (startSt Tryz.prog laidL 6 [.red .i64 true 511 j])) 440 8 = true := by decide +kernel
set_option maxRecDepth 1000000 in
theorem chunk_504 : allFrom (fun j => @runF Tryz.prog hookM isTrue 500000 (startSt Tryz.prog laidL 6 [.red .i64 true 511 j])) 504 8 = true := by decide +kernel
end Go.Proofs.YtckbhajndplkiaaGreatDoor

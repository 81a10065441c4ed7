/- Runs of the law by the evaluator, in the kernel, its 'awake' taken by its contract: it answers true in every order. No conditions. -/
import Derived.Test.YtckbhajndplkiaaGreatDoorMoH
namespace Go.Proofs.YtckbhajndplkiaaGreatDoor
open Go.VM
set_option maxRecDepth 1000000 in
theorem chunk_48 : allFrom (fun j => @runF Tryz.prog hookM isTrue 500000 (startSt Tryz.prog laidL 6 [.red .i64 true 511 j])) 48 8 = true := by decide +kernel
set_option maxRecDepth 1000000 in
theorem chunk_112 : allFrom (fun j => @runF Tryz.prog hookM isTrue 500000 (startSt Tryz.prog laidL 6 [.red .i64 true 511 j])) 112 8 = true := by decide +kernel
set_option maxRecDepth 1000000 in
theorem chunk_176 : allFrom (fun j => @runF Tryz.prog hookM isTrue 500000 (startSt Tryz.prog laidL 6 [.red .i64 true 511 j])) 176 8 = true := by decide +kernel
set_option maxRecDepth 1000000 in
theorem chunk_240 : allFrom (fun j => @runF Tryz.prog hookM isTrue 500000 (startSt Tryz.prog laidL 6 [.red .i64 true 511 j])) 240 8 = true := by decide +kernel
set_option maxRecDepth 1000000 in
theorem chunk_304 : allFrom (fun j => @runF Tryz.prog hookM isTrue 500000 (startSt Tryz.prog laidL 6 [.red .i64 true 511 j])) 304 8 = true := by decide +kernel
set_option maxRecDepth 1000000 in
theorem chunk_368 : allFrom (fun j => @runF Tryz.prog hookM isTrue 500000 (startSt Tryz.prog laidL 6 [.red .i64 true 511 j])) 368 8 = true := by decide +kernel
set_option maxRecDepth 1000000 in
theorem chunk_432 : allFrom (fun j => @runF Tryz.prog hookM isTrue 500000 (startSt Tryz.prog laidL 6 [.red .i64 true 511 j])) 432 8 = true := by decide +kernel
set_option maxRecDepth 1000000 in
theorem chunk_496 : allFrom (fun j => @runF Tryz.prog hookM isTrue 500000 (startSt Tryz.prog laidL 6 [.red .i64 true 511 j])) 496 8 = true := by decide +kernel
end Go.Proofs.YtckbhajndplkiaaGreatDoor

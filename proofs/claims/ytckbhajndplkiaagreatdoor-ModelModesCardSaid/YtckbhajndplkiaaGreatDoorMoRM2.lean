/- Runs of the law by the evaluator, in the kernel, its 'awake' taken by its contract: it answers true in every order. No conditions. -/
import Derived.Test.YtckbhajndplkiaaGreatDoorMoH
namespace Go.Proofs.YtckbhajndplkiaaGreatDoor
open Go.VM
set_option maxRecDepth 1000000 in
theorem chunk_16 : allFrom (fun j => @runF Tryz.prog hookM isTrue 500000 (startSt Tryz.prog laidL 6 [.red .i64 true 511 j])) 16 8 = true := by decide +kernel
set_option maxRecDepth 1000000 in
theorem chunk_80 : allFrom (fun j => @runF Tryz.prog hookM isTrue 500000 (startSt Tryz.prog laidL 6 [.red .i64 true 511 j])) 80 8 = true := by decide +kernel
set_option maxRecDepth 1000000 in
theorem chunk_144 : allFrom (fun j => @runF Tryz.prog hookM isTrue 500000 (startSt Tryz.prog laidL 6 [.red .i64 true 511 j])) 144 8 = true := by decide +kernel
set_option maxRecDepth 1000000 in
theorem chunk_208 : allFrom (fun j => @runF Tryz.prog hookM isTrue 500000 (startSt Tryz.prog laidL 6 [.red .i64 true 511 j])) 208 8 = true := by decide +kernel
set_option maxRecDepth 1000000 in
theorem chunk_272 : allFrom (fun j => @runF Tryz.prog hookM isTrue 500000 (startSt Tryz.prog laidL 6 [.red .i64 true 511 j])) 272 8 = true := by decide +kernel
set_option maxRecDepth 1000000 in
theorem chunk_336 : allFrom (fun j => @runF Tryz.prog hookM isTrue 500000 (startSt Tryz.prog laidL 6 [.red .i64 true 511 j])) 336 8 = true := by decide +kernel
set_option maxRecDepth 1000000 in
theorem chunk_400 : allFrom (fun j => @runF Tryz.prog hookM isTrue 500000 (startSt Tryz.prog laidL 6 [.red .i64 true 511 j])) 400 8 = true := by decide +kernel
set_option maxRecDepth 1000000 in
theorem chunk_464 : allFrom (fun j => @runF Tryz.prog hookM isTrue 500000 (startSt Tryz.prog laidL 6 [.red .i64 true 511 j])) 464 8 = true := by decide +kernel
end Go.Proofs.YtckbhajndplkiaaGreatDoor

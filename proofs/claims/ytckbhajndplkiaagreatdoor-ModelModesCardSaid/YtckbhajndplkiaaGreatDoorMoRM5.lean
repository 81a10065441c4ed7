/- Runs of the law by the evaluator, in the kernel, its 'awake' taken by its contract: it answers true in every order. No conditions. -/
import Derived.Test.YtckbhajndplkiaaGreatDoorMoH
namespace Go.Proofs.YtckbhajndplkiaaGreatDoor
open Go.VM
set_option maxRecDepth 1000000 in
theorem chunk_40 : allFrom (fun j => @runF Tryz.prog hookM isTrue 500000 (startSt Tryz.prog laidL 6 [.red .i64 true 511 j])) 40 8 = true := by decide +kernel
set_option maxRecDepth 1000000 in
theorem chunk_104 : allFrom (fun j => @runF Tryz.prog hookM isTrue 500000 (startSt Tryz.prog laidL 6 [.red .i64 true 511 j])) 104 8 = true := by decide +kernel
set_option maxRecDepth 1000000 in
theorem chunk_168 : allFrom (fun j => @runF Tryz.prog hookM isTrue 500000 (startSt Tryz.prog laidL 6 [.red .i64 true 511 j])) 168 8 = true := by decide +kernel
set_option maxRecDepth 1000000 in
theorem chunk_232 : allFrom (fun j => @runF Tryz.prog hookM isTrue 500000 (startSt Tryz.prog laidL 6 [.red .i64 true 511 j])) 232 8 = true := by decide +kernel
set_option maxRecDepth 1000000 in
theorem chunk_296 : allFrom (fun j => @runF Tryz.prog hookM isTrue 500000 (startSt Tryz.prog laidL 6 [.red .i64 true 511 j])) 296 8 = true := by decide +kernel
set_option maxRecDepth 1000000 in
theorem chunk_360 : allFrom (fun j => @runF Tryz.prog hookM isTrue 500000 (startSt Tryz.prog laidL 6 [.red .i64 true 511 j])) 360 8 = true := by decide +kernel
set_option maxRecDepth 1000000 in
theorem chunk_424 : allFrom (fun j => @runF Tryz.prog hookM isTrue 500000 (startSt Tryz.prog laidL 6 [.red .i64 true 511 j])) 424 8 = true := by decide +kernel
set_option maxRecDepth 1000000 in
theorem chunk_488 : allFrom (fun j => @runF Tryz.prog hookM isTrue 500000 (startSt Tryz.prog laidL 6 [.red .i64 true 511 j])) 488 8 = true := by decide +kernel
end Go.Proofs.YtckbhajndplkiaaGreatDoor

/- Runs of the law by the evaluator, in the kernel, its 'awake' taken by its contract: it answers true in every order. No conditions. -/
import Derived.Test.YtckbhajndplkiaaGreatDoorCwH
namespace Go.Proofs.YtckbhajndplkiaaGreatDoor
open Go.VM
set_option maxRecDepth 1000000 in
theorem chunk_24 : allFrom (fun j => @runF Tryz.prog hookM isTrue 500000 (startSt Tryz.prog laidL 7 [.red .i64 true 255 j])) 24 4 = true := by decide +kernel
set_option maxRecDepth 1000000 in
theorem chunk_56 : allFrom (fun j => @runF Tryz.prog hookM isTrue 500000 (startSt Tryz.prog laidL 7 [.red .i64 true 255 j])) 56 4 = true := by decide +kernel
set_option maxRecDepth 1000000 in
theorem chunk_88 : allFrom (fun j => @runF Tryz.prog hookM isTrue 500000 (startSt Tryz.prog laidL 7 [.red .i64 true 255 j])) 88 4 = true := by decide +kernel
set_option maxRecDepth 1000000 in
theorem chunk_120 : allFrom (fun j => @runF Tryz.prog hookM isTrue 500000 (startSt Tryz.prog laidL 7 [.red .i64 true 255 j])) 120 4 = true := by decide +kernel
set_option maxRecDepth 1000000 in
theorem chunk_152 : allFrom (fun j => @runF Tryz.prog hookM isTrue 500000 (startSt Tryz.prog laidL 7 [.red .i64 true 255 j])) 152 4 = true := by decide +kernel
set_option maxRecDepth 1000000 in
theorem chunk_184 : allFrom (fun j => @runF Tryz.prog hookM isTrue 500000 (startSt Tryz.prog laidL 7 [.red .i64 true 255 j])) 184 4 = true := by decide +kernel
set_option maxRecDepth 1000000 in
theorem chunk_216 : allFrom (fun j => @runF Tryz.prog hookM isTrue 500000 (startSt Tryz.prog laidL 7 [.red .i64 true 255 j])) 216 4 = true := by decide +kernel
set_option maxRecDepth 1000000 in
theorem chunk_248 : allFrom (fun j => @runF Tryz.prog hookM isTrue 500000 (startSt Tryz.prog laidL 7 [.red .i64 true 255 j])) 248 4 = true := by decide +kernel
end Go.Proofs.YtckbhajndplkiaaGreatDoor

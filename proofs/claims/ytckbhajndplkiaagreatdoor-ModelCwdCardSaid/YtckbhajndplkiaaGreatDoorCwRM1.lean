/- Runs of the law by the evaluator, in the kernel, its 'awake' taken by its contract: it answers true in every order. No conditions. -/
import Derived.Test.YtckbhajndplkiaaGreatDoorCwH
namespace Go.Proofs.YtckbhajndplkiaaGreatDoor
open Go.VM
set_option maxRecDepth 1000000 in
theorem chunk_4 : allFrom (fun j => @runF Tryz.prog hookM isTrue 500000 (startSt Tryz.prog laidL 7 [.red .i64 true 255 j])) 4 4 = true := by decide +kernel
set_option maxRecDepth 1000000 in
theorem chunk_36 : allFrom (fun j => @runF Tryz.prog hookM isTrue 500000 (startSt Tryz.prog laidL 7 [.red .i64 true 255 j])) 36 4 = true := by decide +kernel
set_option maxRecDepth 1000000 in
theorem chunk_68 : allFrom (fun j => @runF Tryz.prog hookM isTrue 500000 (startSt Tryz.prog laidL 7 [.red .i64 true 255 j])) 68 4 = true := by decide +kernel
set_option maxRecDepth 1000000 in
theorem chunk_100 : allFrom (fun j => @runF Tryz.prog hookM isTrue 500000 (startSt Tryz.prog laidL 7 [.red .i64 true 255 j])) 100 4 = true := by decide +kernel
set_option maxRecDepth 1000000 in
theorem chunk_132 : allFrom (fun j => @runF Tryz.prog hookM isTrue 500000 (startSt Tryz.prog laidL 7 [.red .i64 true 255 j])) 132 4 = true := by decide +kernel
set_option maxRecDepth 1000000 in
theorem chunk_164 : allFrom (fun j => @runF Tryz.prog hookM isTrue 500000 (startSt Tryz.prog laidL 7 [.red .i64 true 255 j])) 164 4 = true := by decide +kernel
set_option maxRecDepth 1000000 in
theorem chunk_196 : allFrom (fun j => @runF Tryz.prog hookM isTrue 500000 (startSt Tryz.prog laidL 7 [.red .i64 true 255 j])) 196 4 = true := by decide +kernel
set_option maxRecDepth 1000000 in
theorem chunk_228 : allFrom (fun j => @runF Tryz.prog hookM isTrue 500000 (startSt Tryz.prog laidL 7 [.red .i64 true 255 j])) 228 4 = true := by decide +kernel
end Go.Proofs.YtckbhajndplkiaaGreatDoor

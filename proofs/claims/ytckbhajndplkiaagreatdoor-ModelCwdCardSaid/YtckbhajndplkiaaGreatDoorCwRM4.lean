/- Runs of the law by the evaluator, in the kernel, its 'awake' taken by its contract: it answers true in every order. No conditions. -/
import Derived.Test.YtckbhajndplkiaaGreatDoorCwH
namespace Go.Proofs.YtckbhajndplkiaaGreatDoor
open Go.VM
set_option maxRecDepth 1000000 in
theorem chunk_16 : allFrom (fun j => @runF Tryz.prog hookM isTrue 500000 (startSt Tryz.prog laidL 7 [.red .i64 true 255 j])) 16 4 = true := by decide +kernel
set_option maxRecDepth 1000000 in
theorem chunk_48 : allFrom (fun j => @runF Tryz.prog hookM isTrue 500000 (startSt Tryz.prog laidL 7 [.red .i64 true 255 j])) 48 4 = true := by decide +kernel
set_option maxRecDepth 1000000 in
theorem chunk_80 : allFrom (fun j => @runF Tryz.prog hookM isTrue 500000 (startSt Tryz.prog laidL 7 [.red .i64 true 255 j])) 80 4 = true := by decide +kernel
set_option maxRecDepth 1000000 in
theorem chunk_112 : allFrom (fun j => @runF Tryz.prog hookM isTrue 500000 (startSt Tryz.prog laidL 7 [.red .i64 true 255 j])) 112 4 = true := by decide +kernel
set_option maxRecDepth 1000000 in
theorem chunk_144 : allFrom (fun j => @runF Tryz.prog hookM isTrue 500000 (startSt Tryz.prog laidL 7 [.red .i64 true 255 j])) 144 4 = true := by decide +kernel
set_option maxRecDepth 1000000 in
theorem chunk_176 : allFrom (fun j => @runF Tryz.prog hookM isTrue 500000 (startSt Tryz.prog laidL 7 [.red .i64 true 255 j])) 176 4 = true := by decide +kernel
set_option maxRecDepth 1000000 in
theorem chunk_208 : allFrom (fun j => @runF Tryz.prog hookM isTrue 500000 (startSt Tryz.prog laidL 7 [.red .i64 true 255 j])) 208 4 = true := by decide +kernel
set_option maxRecDepth 1000000 in
theorem chunk_240 : allFrom (fun j => @runF Tryz.prog hookM isTrue 500000 (startSt Tryz.prog laidL 7 [.red .i64 true 255 j])) 240 4 = true := by decide +kernel
end Go.Proofs.YtckbhajndplkiaaGreatDoor

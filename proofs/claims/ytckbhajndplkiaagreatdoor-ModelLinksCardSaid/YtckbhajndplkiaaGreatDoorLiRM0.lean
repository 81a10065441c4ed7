/- Runs of the law by the evaluator, in the kernel, its 'awake' taken by its contract: it answers true in every order. No conditions. -/
import Derived.Test.YtckbhajndplkiaaGreatDoorLiH
namespace Go.Proofs.YtckbhajndplkiaaGreatDoor
open Go.VM
set_option maxRecDepth 1000000 in
theorem chunk_0 : allFrom (fun j => @runF Tryz.prog hookM isTrue 500000 (startSt Tryz.prog laidL 4 [.red .i64 true 0 0, .red .i64 true 255 j])) 0 2 = true := by decide +kernel
set_option maxRecDepth 1000000 in
theorem chunk_24 : allFrom (fun j => @runF Tryz.prog hookM isTrue 500000 (startSt Tryz.prog laidL 4 [.red .i64 true 0 0, .red .i64 true 255 j])) 24 2 = true := by decide +kernel
set_option maxRecDepth 1000000 in
theorem chunk_48 : allFrom (fun j => @runF Tryz.prog hookM isTrue 500000 (startSt Tryz.prog laidL 4 [.red .i64 true 0 0, .red .i64 true 255 j])) 48 2 = true := by decide +kernel
set_option maxRecDepth 1000000 in
theorem chunk_72 : allFrom (fun j => @runF Tryz.prog hookM isTrue 500000 (startSt Tryz.prog laidL 4 [.red .i64 true 0 0, .red .i64 true 255 j])) 72 2 = true := by decide +kernel
set_option maxRecDepth 1000000 in
theorem chunk_96 : allFrom (fun j => @runF Tryz.prog hookM isTrue 500000 (startSt Tryz.prog laidL 4 [.red .i64 true 0 0, .red .i64 true 255 j])) 96 2 = true := by decide +kernel
set_option maxRecDepth 1000000 in
theorem chunk_120 : allFrom (fun j => @runF Tryz.prog hookM isTrue 500000 (startSt Tryz.prog laidL 4 [.red .i64 true 0 0, .red .i64 true 255 j])) 120 2 = true := by decide +kernel
set_option maxRecDepth 1000000 in
theorem chunk_144 : allFrom (fun j => @runF Tryz.prog hookM isTrue 500000 (startSt Tryz.prog laidL 4 [.red .i64 true 0 0, .red .i64 true 255 j])) 144 2 = true := by decide +kernel
set_option maxRecDepth 1000000 in
theorem chunk_168 : allFrom (fun j => @runF Tryz.prog hookM isTrue 500000 (startSt Tryz.prog laidL 4 [.red .i64 true 0 0, .red .i64 true 255 j])) 168 2 = true := by decide +kernel
set_option maxRecDepth 1000000 in
theorem chunk_192 : allFrom (fun j => @runF Tryz.prog hookM isTrue 500000 (startSt Tryz.prog laidL 4 [.red .i64 true 0 0, .red .i64 true 255 j])) 192 2 = true := by decide +kernel
set_option maxRecDepth 1000000 in
theorem chunk_216 : allFrom (fun j => @runF Tryz.prog hookM isTrue 500000 (startSt Tryz.prog laidL 4 [.red .i64 true 0 0, .red .i64 true 255 j])) 216 2 = true := by decide +kernel
set_option maxRecDepth 1000000 in
theorem chunk_240 : allFrom (fun j => @runF Tryz.prog hookM isTrue 500000 (startSt Tryz.prog laidL 4 [.red .i64 true 0 0, .red .i64 true 255 j])) 240 2 = true := by decide +kernel
end Go.Proofs.YtckbhajndplkiaaGreatDoor

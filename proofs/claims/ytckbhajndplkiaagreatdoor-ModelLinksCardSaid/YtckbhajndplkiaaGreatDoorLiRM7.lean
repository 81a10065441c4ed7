/- Runs of the law by the evaluator, in the kernel, its 'awake' taken by its contract: it answers true in every order. No conditions. -/
import Derived.Test.YtckbhajndplkiaaGreatDoorLiH
namespace Go.Proofs.YtckbhajndplkiaaGreatDoor
open Go.VM
set_option maxRecDepth 1000000 in
theorem chunk_14 : allFrom (fun j => @runF Tryz.prog hookM isTrue 500000 (startSt Tryz.prog laidL 4 [.red .i64 true 0 0, .red .i64 true 255 j])) 14 2 = true := by decide +kernel
set_option maxRecDepth 1000000 in
theorem chunk_38 : allFrom (fun j => @runF Tryz.prog hookM isTrue 500000 (startSt Tryz.prog laidL 4 [.red .i64 true 0 0, .red .i64 true 255 j])) 38 2 = true := by decide +kernel
set_option maxRecDepth 1000000 in
theorem chunk_62 : allFrom (fun j => @runF Tryz.prog hookM isTrue 500000 (startSt Tryz.prog laidL 4 [.red .i64 true 0 0, .red .i64 true 255 j])) 62 2 = true := by decide +kernel
set_option maxRecDepth 1000000 in
theorem chunk_86 : allFrom (fun j => @runF Tryz.prog hookM isTrue 500000 (startSt Tryz.prog laidL 4 [.red .i64 true 0 0, .red .i64 true 255 j])) 86 2 = true := by decide +kernel
set_option maxRecDepth 1000000 in
theorem chunk_110 : allFrom (fun j => @runF Tryz.prog hookM isTrue 500000 (startSt Tryz.prog laidL 4 [.red .i64 true 0 0, .red .i64 true 255 j])) 110 2 = true := by decide +kernel
set_option maxRecDepth 1000000 in
theorem chunk_134 : allFrom (fun j => @runF Tryz.prog hookM isTrue 500000 (startSt Tryz.prog laidL 4 [.red .i64 true 0 0, .red .i64 true 255 j])) 134 2 = true := by decide +kernel
set_option maxRecDepth 1000000 in
theorem chunk_158 : allFrom (fun j => @runF Tryz.prog hookM isTrue 500000 (startSt Tryz.prog laidL 4 [.red .i64 true 0 0, .red .i64 true 255 j])) 158 2 = true := by decide +kernel
set_option maxRecDepth 1000000 in
theorem chunk_182 : allFrom (fun j => @runF Tryz.prog hookM isTrue 500000 (startSt Tryz.prog laidL 4 [.red .i64 true 0 0, .red .i64 true 255 j])) 182 2 = true := by decide +kernel
set_option maxRecDepth 1000000 in
theorem chunk_206 : allFrom (fun j => @runF Tryz.prog hookM isTrue 500000 (startSt Tryz.prog laidL 4 [.red .i64 true 0 0, .red .i64 true 255 j])) 206 2 = true := by decide +kernel
set_option maxRecDepth 1000000 in
theorem chunk_230 : allFrom (fun j => @runF Tryz.prog hookM isTrue 500000 (startSt Tryz.prog laidL 4 [.red .i64 true 0 0, .red .i64 true 255 j])) 230 2 = true := by decide +kernel
set_option maxRecDepth 1000000 in
theorem chunk_254 : allFrom (fun j => @runF Tryz.prog hookM isTrue 500000 (startSt Tryz.prog laidL 4 [.red .i64 true 0 0, .red .i64 true 255 j])) 254 2 = true := by decide +kernel
end Go.Proofs.YtckbhajndplkiaaGreatDoor

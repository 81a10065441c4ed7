/- Runs of the law by the evaluator, in the kernel, its 'awake' taken by its contract: it answers true in every order. No conditions. -/
import Derived.Test.YtckbhajndplkiaaGreatDoorLiH
namespace Go.Proofs.YtckbhajndplkiaaGreatDoor
open Go.VM
set_option maxRecDepth 1000000 in
theorem chunk_10 : allFrom (fun j => @runF Tryz.prog hookM isTrue 500000 (startSt Tryz.prog laidL 4 [.red .i64 true 0 0, .red .i64 true 255 j])) 10 2 = true := by decide +kernel
set_option maxRecDepth 1000000 in
theorem chunk_34 : allFrom (fun j => @runF Tryz.prog hookM isTrue 500000 (startSt Tryz.prog laidL 4 [.red .i64 true 0 0, .red .i64 true 255 j])) 34 2 = true := by decide +kernel
set_option maxRecDepth 1000000 in
theorem chunk_58 : allFrom (fun j => @runF Tryz.prog hookM isTrue 500000 (startSt Tryz.prog laidL 4 [.red .i64 true 0 0, .red .i64 true 255 j])) 58 2 = true := by decide +kernel
set_option maxRecDepth 1000000 in
theorem chunk_82 : allFrom (fun j => @runF Tryz.prog hookM isTrue 500000 (startSt Tryz.prog laidL 4 [.red .i64 true 0 0, .red .i64 true 255 j])) 82 2 = true := by decide +kernel
set_option maxRecDepth 1000000 in
theorem chunk_106 : allFrom (fun j => @runF Tryz.prog hookM isTrue 500000 (startSt Tryz.prog laidL 4 [.red .i64 true 0 0, .red .i64 true 255 j])) 106 2 = true := by decide +kernel
set_option maxRecDepth 1000000 in
theorem chunk_130 : allFrom (fun j => @runF Tryz.prog hookM isTrue 500000 (startSt Tryz.prog laidL 4 [.red .i64 true 0 0, .red .i64 true 255 j])) 130 2 = true := by decide +kernel
set_option maxRecDepth 1000000 in
theorem chunk_154 : allFrom (fun j => @runF Tryz.prog hookM isTrue 500000 (startSt Tryz.prog laidL 4 [.red .i64 true 0 0, .red .i64 true 255 j])) 154 2 = true := by decide +kernel
set_option maxRecDepth 1000000 in
theorem chunk_178 : allFrom (fun j => @runF Tryz.prog hookM isTrue 500000 (startSt Tryz.prog laidL 4 [.red .i64 true 0 0, .red .i64 true 255 j])) 178 2 = true := by decide +kernel
set_option maxRecDepth 1000000 in
theorem chunk_202 : allFrom (fun j => @runF Tryz.prog hookM isTrue 500000 (startSt Tryz.prog laidL 4 [.red .i64 true 0 0, .red .i64 true 255 j])) 202 2 = true := by decide +kernel
set_option maxRecDepth 1000000 in
theorem chunk_226 : allFrom (fun j => @runF Tryz.prog hookM isTrue 500000 (startSt Tryz.prog laidL 4 [.red .i64 true 0 0, .red .i64 true 255 j])) 226 2 = true := by decide +kernel
set_option maxRecDepth 1000000 in
theorem chunk_250 : allFrom (fun j => @runF Tryz.prog hookM isTrue 500000 (startSt Tryz.prog laidL 4 [.red .i64 true 0 0, .red .i64 true 255 j])) 250 2 = true := by decide +kernel
end Go.Proofs.YtckbhajndplkiaaGreatDoor

/- Runs of the law by the evaluator, in the kernel, its 'awake' taken by its contract: it answers true in every order. No conditions. -/
import Derived.Test.YtckbhajndplkiaaGreatDoorLiH
namespace Go.Proofs.YtckbhajndplkiaaGreatDoor
open Go.VM
set_option maxRecDepth 1000000 in
theorem chunk_16 : allFrom (fun j => @runF Tryz.prog hookM isTrue 500000 (startSt Tryz.prog laidL 4 [.red .i64 true 0 0, .red .i64 true 255 j])) 16 2 = true := by decide +kernel
set_option maxRecDepth 1000000 in
theorem chunk_40 : allFrom (fun j => @runF Tryz.prog hookM isTrue 500000 (startSt Tryz.prog laidL 4 [.red .i64 true 0 0, .red .i64 true 255 j])) 40 2 = true := by decide +kernel
set_option maxRecDepth 1000000 in
theorem chunk_64 : allFrom (fun j => @runF Tryz.prog hookM isTrue 500000 (startSt Tryz.prog laidL 4 [.red .i64 true 0 0, .red .i64 true 255 j])) 64 2 = true := by decide +kernel
set_option maxRecDepth 1000000 in
theorem chunk_88 : allFrom (fun j => @runF Tryz.prog hookM isTrue 500000 (startSt Tryz.prog laidL 4 [.red .i64 true 0 0, .red .i64 true 255 j])) 88 2 = true := by decide +kernel
set_option maxRecDepth 1000000 in
theorem chunk_112 : allFrom (fun j => @runF Tryz.prog hookM isTrue 500000 (startSt Tryz.prog laidL 4 [.red .i64 true 0 0, .red .i64 true 255 j])) 112 2 = true := by decide +kernel
set_option maxRecDepth 1000000 in
theorem chunk_136 : allFrom (fun j => @runF Tryz.prog hookM isTrue 500000 (startSt Tryz.prog laidL 4 [.red .i64 true 0 0, .red .i64 true 255 j])) 136 2 = true := by decide +kernel
set_option maxRecDepth 1000000 in
theorem chunk_160 : allFrom (fun j => @runF Tryz.prog hookM isTrue 500000 (startSt Tryz.prog laidL 4 [.red .i64 true 0 0, .red .i64 true 255 j])) 160 2 = true := by decide +kernel
set_option maxRecDepth 1000000 in
theorem chunk_184 : allFrom (fun j => @runF Tryz.prog hookM isTrue 500000 (startSt Tryz.prog laidL 4 [.red .i64 true 0 0, .red .i64 true 255 j])) 184 2 = true := by decide +kernel
set_option maxRecDepth 1000000 in
theorem chunk_208 : allFrom (fun j => @runF Tryz.prog hookM isTrue 500000 (startSt Tryz.prog laidL 4 [.red .i64 true 0 0, .red .i64 true 255 j])) 208 2 = true := by decide +kernel
set_option maxRecDepth 1000000 in
theorem chunk_232 : allFrom (fun j => @runF Tryz.prog hookM isTrue 500000 (startSt Tryz.prog laidL 4 [.red .i64 true 0 0, .red .i64 true 255 j])) 232 2 = true := by decide +kernel
end Go.Proofs.YtckbhajndplkiaaGreatDoor

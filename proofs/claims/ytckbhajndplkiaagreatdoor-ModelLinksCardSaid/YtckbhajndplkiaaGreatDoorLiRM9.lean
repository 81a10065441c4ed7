/- Runs of the law by the evaluator, in the kernel, its 'awake' taken by its contract: it answers true in every order. No conditions. -/
import Derived.Test.YtckbhajndplkiaaGreatDoorLiH
namespace Go.Proofs.YtckbhajndplkiaaGreatDoor
open Go.VM
set_option maxRecDepth 1000000 in
theorem chunk_18 : allFrom (fun j => @runF Tryz.prog hookM isTrue 500000 (startSt Tryz.prog laidL 4 [.red .i64 true 0 0, .red .i64 true 255 j])) 18 2 = true := by decide +kernel
set_option maxRecDepth 1000000 in
theorem chunk_42 : allFrom (fun j => @runF Tryz.prog hookM isTrue 500000 (startSt Tryz.prog laidL 4 [.red .i64 true 0 0, .red .i64 true 255 j])) 42 2 = true := by decide +kernel
set_option maxRecDepth 1000000 in
theorem chunk_66 : allFrom (fun j => @runF Tryz.prog hookM isTrue 500000 (startSt Tryz.prog laidL 4 [.red .i64 true 0 0, .red .i64 true 255 j])) 66 2 = true := by decide +kernel
set_option maxRecDepth 1000000 in
theorem chunk_90 : allFrom (fun j => @runF Tryz.prog hookM isTrue 500000 (startSt Tryz.prog laidL 4 [.red .i64 true 0 0, .red .i64 true 255 j])) 90 2 = true := by decide +kernel
set_option maxRecDepth 1000000 in
theorem chunk_114 : allFrom (fun j => @runF Tryz.prog hookM isTrue 500000 (startSt Tryz.prog laidL 4 [.red .i64 true 0 0, .red .i64 true 255 j])) 114 2 = true := by decide +kernel
set_option maxRecDepth 1000000 in
theorem chunk_138 : allFrom (fun j => @runF Tryz.prog hookM isTrue 500000 (startSt Tryz.prog laidL 4 [.red .i64 true 0 0, .red .i64 true 255 j])) 138 2 = true := by decide +kernel
set_option maxRecDepth 1000000 in
theorem chunk_162 : allFrom (fun j => @runF Tryz.prog hookM isTrue 500000 (startSt Tryz.prog laidL 4 [.red .i64 true 0 0, .red .i64 true 255 j])) 162 2 = true := by decide +kernel
set_option maxRecDepth 1000000 in
theorem chunk_186 : allFrom (fun j => @runF Tryz.prog hookM isTrue 500000 (startSt Tryz.prog laidL 4 [.red .i64 true 0 0, .red .i64 true 255 j])) 186 2 = true := by decide +kernel
set_option maxRecDepth 1000000 in
theorem chunk_210 : allFrom (fun j => @runF Tryz.prog hookM isTrue 500000 (startSt Tryz.prog laidL 4 [.red .i64 true 0 0, .red .i64 true 255 j])) 210 2 = true := by decide +kernel
set_option maxRecDepth 1000000 in
theorem chunk_234 : allFrom (fun j => @runF Tryz.prog hookM isTrue 500000 (startSt Tryz.prog laidL 4 [.red .i64 true 0 0, .red .i64 true 255 j])) 234 2 = true := by decide +kernel
end Go.Proofs.YtckbhajndplkiaaGreatDoor

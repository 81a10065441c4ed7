/- Runs of the law by the evaluator, in the kernel, its 'awake' taken by its contract: it answers true in every order. No conditions. -/
import Derived.Test.YtckbhajndplkiaaGreatDoorLiH
namespace Go.Proofs.YtckbhajndplkiaaGreatDoor
open Go.VM
set_option maxRecDepth 1000000 in
theorem chunk_2 : allFrom (fun j => @runF Tryz.prog hookM isTrue 500000 (startSt Tryz.prog laidL 4 [.red .i64 true 0 0, .red .i64 true 255 j])) 2 2 = true := by decide +kernel
set_option maxRecDepth 1000000 in
theorem chunk_26 : allFrom (fun j => @runF Tryz.prog hookM isTrue 500000 (startSt Tryz.prog laidL 4 [.red .i64 true 0 0, .red .i64 true 255 j])) 26 2 = true := by decide +kernel
set_option maxRecDepth 1000000 in
theorem chunk_50 : allFrom (fun j => @runF Tryz.prog hookM isTrue 500000 (startSt Tryz.prog laidL 4 [.red .i64 true 0 0, .red .i64 true 255 j])) 50 2 = true := by decide +kernel
set_option maxRecDepth 1000000 in
theorem chunk_74 : allFrom (fun j => @runF Tryz.prog hookM isTrue 500000 (startSt Tryz.prog laidL 4 [.red .i64 true 0 0, .red .i64 true 255 j])) 74 2 = true := by decide +kernel
set_option maxRecDepth 1000000 in
theorem chunk_98 : allFrom (fun j => @runF Tryz.prog hookM isTrue 500000 (startSt Tryz.prog laidL 4 [.red .i64 true 0 0, .red .i64 true 255 j])) 98 2 = true := by decide +kernel
set_option maxRecDepth 1000000 in
theorem chunk_122 : allFrom (fun j => @runF Tryz.prog hookM isTrue 500000 (startSt Tryz.prog laidL 4 [.red .i64 true 0 0, .red .i64 true 255 j])) 122 2 = true := by decide +kernel
set_option maxRecDepth 1000000 in
theorem chunk_146 : allFrom (fun j => @runF Tryz.prog hookM isTrue 500000 (startSt Tryz.prog laidL 4 [.red .i64 true 0 0, .red .i64 true 255 j])) 146 2 = true := by decide +kernel
set_option maxRecDepth 1000000 in
theorem chunk_170 : allFrom (fun j => @runF Tryz.prog hookM isTrue 500000 (startSt Tryz.prog laidL 4 [.red .i64 true 0 0, .red .i64 true 255 j])) 170 2 = true := by decide +kernel
set_option maxRecDepth 1000000 in
theorem chunk_194 : allFrom (fun j => @runF Tryz.prog hookM isTrue 500000 (startSt Tryz.prog laidL 4 [.red .i64 true 0 0, .red .i64 true 255 j])) 194 2 = true := by decide +kernel
set_option maxRecDepth 1000000 in
theorem chunk_218 : allFrom (fun j => @runF Tryz.prog hookM isTrue 500000 (startSt Tryz.prog laidL 4 [.red .i64 true 0 0, .red .i64 true 255 j])) 218 2 = true := by decide +kernel
set_option maxRecDepth 1000000 in
theorem chunk_242 : allFrom (fun j => @runF Tryz.prog hookM isTrue 500000 (startSt Tryz.prog laidL 4 [.red .i64 true 0 0, .red .i64 true 255 j])) 242 2 = true := by decide +kernel
end Go.Proofs.YtckbhajndplkiaaGreatDoor

/- Runs of the law by the evaluator, in the kernel, its 'awake' taken by its contract: it answers true in every order. No conditions. -/
import Derived.Test.YtckbhajndplkiaaGreatDoorCwH
namespace Go.Proofs.YtckbhajndplkiaaGreatDoor
open Go.VM
set_option maxRecDepth 1000000 in
theorem chunk_8 : allFrom (fun j => @runF Tryz.prog hookM isTrue 500000 (startSt Tryz.prog laidL 7 [.red .i64 true 255 j])) 8 4 = true := by decide +kernel
set_option maxRecDepth 1000000 in
theorem chunk_40 : allFrom (fun j => @runF Tryz.prog hookM isTrue 500000 (startSt Tryz.prog laidL 7 [.red .i64 true 255 j])) 40 4 = true := by decide +kernel
set_option maxRecDepth 1000000 in
theorem chunk_72 : allFrom (fun j => @runF Tryz.prog hookM isTrue 500000 (startSt Tryz.prog laidL 7 [.red .i64 true 255 j])) 72 4 = true := by decide +kernel
set_option maxRecDepth 1000000 in
theorem chunk_104 : allFrom (fun j => @runF Tryz.prog hookM isTrue 500000 (startSt Tryz.prog laidL 7 [.red .i64 true 255 j])) 104 4 = true := by decide +kernel
set_option maxRecDepth 1000000 in
theorem chunk_136 : allFrom (fun j => @runF Tryz.prog hookM isTrue 500000 (startSt Tryz.prog laidL 7 [.red .i64 true 255 j])) 136 4 = true := by decide +kernel
set_option maxRecDepth 1000000 in
theorem chunk_168 : allFrom (fun j => @runF Tryz.prog hookM isTrue 500000 (startSt Tryz.prog laidL 7 [.red .i64 true 255 j])) 168 4 = true := by decide +kernel
set_option maxRecDepth 1000000 in
theorem chunk_200 : allFrom (fun j => @runF Tryz.prog hookM isTrue 500000 (startSt Tryz.prog laidL 7 [.red .i64 true 255 j])) 200 4 = true := by decide +kernel
set_option maxRecDepth 1000000 in
theorem chunk_232 : allFrom (fun j => @runF Tryz.prog hookM isTrue 500000 (startSt Tryz.prog laidL 7 [.red .i64 true 255 j])) 232 4 = true := by decide +kernel
end Go.Proofs.YtckbhajndplkiaaGreatDoor

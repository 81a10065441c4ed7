/- Runs of the law by the evaluator, in the kernel, its 'awake' taken by its contract: it answers true in every order. No conditions. -/
import Derived.Test.YtckbhajndplkiaaGreatDoorCwH
namespace Go.Proofs.YtckbhajndplkiaaGreatDoor
open Go.VM
set_option maxRecDepth 1000000 in
theorem chunk_20 : allFrom (fun j => @runF Tryz.prog hookM isTrue 500000 (startSt Tryz.prog laidL 7 [.red .i64 true 255 j])) 20 4 = true := by decide +kernel
set_option maxRecDepth 1000000 in
theorem chunk_52 : allFrom (fun j => @runF Tryz.prog hookM isTrue 500000 (startSt Tryz.prog laidL 7 [.red .i64 true 255 j])) 52 4 = true := by decide +kernel
set_option maxRecDepth 1000000 in
theorem chunk_84 : allFrom (fun j => @runF Tryz.prog hookM isTrue 500000 (startSt Tryz.prog laidL 7 [.red .i64 true 255 j])) 84 4 = true := by decide +kernel
set_option maxRecDepth 1000000 in
theorem chunk_116 : allFrom (fun j => @runF Tryz.prog hookM isTrue 500000 (startSt Tryz.prog laidL 7 [.red .i64 true 255 j])) 116 4 = true := by decide +kernel
set_option maxRecDepth 1000000 in
theorem chunk_148 : allFrom (fun j => @runF Tryz.prog hookM isTrue 500000 (startSt Tryz.prog laidL 7 [.red .i64 true 255 j])) 148 4 = true := by decide +kernel
set_option maxRecDepth 1000000 in
theorem chunk_180 : allFrom (fun j => @runF Tryz.prog hookM isTrue 500000 (startSt Tryz.prog laidL 7 [.red .i64 true 255 j])) 180 4 = true := by decide +kernel
set_option maxRecDepth 1000000 in
theorem chunk_212 : allFrom (fun j => @runF Tryz.prog hookM isTrue 500000 (startSt Tryz.prog laidL 7 [.red .i64 true 255 j])) 212 4 = true := by decide +kernel
set_option maxRecDepth 1000000 in
theorem chunk_244 : allFrom (fun j => @runF Tryz.prog hookM isTrue 500000 (startSt Tryz.prog laidL 7 [.red .i64 true 255 j])) 244 4 = true := by decide +kernel
end Go.Proofs.YtckbhajndplkiaaGreatDoor

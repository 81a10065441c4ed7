/- Runs of the law by the evaluator, in the kernel, its 'awake' taken by its contract, one argument as a symbol of an interval: it answers true in every order. No conditions. -/
import Derived.Test.YtndjamcbdcjleaaGreatDoorPfH
import Derived.Test.YtndjamcbdcjleaaGreatDoorVJ
namespace Go.Proofs.YtndjamcbdcjleaaGreatDoor
open Go.VM
set_option maxRecDepth 1000000 in
theorem chunk_b59 : allFrom (fun j => @runF Tryz.prog hookM isTrue 500000 (startStI Tryz.prog laidL 4 [.red .i64 true 63 j, .reds .i64 false 1200 keyI] keyI 350 1200 (keyN 4096))) 59 1 = true := by decide +kernel
set_option maxRecDepth 1000000 in
theorem chunk_a63 : allFrom (fun j => @runF Tryz.prog hookM isTrue 500000 (startStI Tryz.prog laidL 4 [.red .i64 true 63 j, .reds .i64 false 1200 keyI] keyI 0 350 (keyN 4096))) 63 1 = true := by decide +kernel
set_option maxRecDepth 1000000 in
theorem chunk_w20 : allFrom (fun j => @runF Tryz.prog hookM isTrue 500000 (startStI Tryz.prog laidL 4 [.red .i64 true 63 j, .reds .i64 false 1200 keyI] keyI 0 1200 (keyN 4096))) 20 1 = true := by decide +kernel
end Go.Proofs.YtndjamcbdcjleaaGreatDoor

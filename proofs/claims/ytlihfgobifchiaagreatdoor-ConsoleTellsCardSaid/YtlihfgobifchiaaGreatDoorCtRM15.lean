/- Runs of the law by the evaluator, in the kernel, its 'awake' taken by its contract: it answers true in every order. No conditions. -/
import Derived.Test.YtlihfgobifchiaaGreatDoorCtH
namespace Go.Proofs.YtlihfgobifchiaaGreatDoor
open Go.VM
set_option maxRecDepth 1000000 in
theorem chunk_0_135 : allFrom (fun j => @runF Tryz.prog hookM isTrue 500000 (startSt Tryz.prog laidL 3 [.int .u8 (Int.ofNat j), .red .i64 true 3 0])) 135 9 = true := by decide +kernel
set_option maxRecDepth 1000000 in
theorem chunk_1_160 : allFrom (fun j => @runF Tryz.prog hookM isTrue 500000 (startSt Tryz.prog laidL 3 [.int .u8 (Int.ofNat j), .red .i64 true 3 1])) 160 8 = true := by decide +kernel
set_option maxRecDepth 1000000 in
theorem chunk_2_154 : allFrom (fun j => @runF Tryz.prog hookM isTrue 500000 (startSt Tryz.prog laidL 3 [.int .u8 (Int.ofNat j), .red .i64 true 3 2])) 154 7 = true := by decide +kernel
set_option maxRecDepth 1000000 in
theorem chunk_3_114 : allFrom (fun j => @runF Tryz.prog hookM isTrue 500000 (startSt Tryz.prog laidL 3 [.int .u8 (Int.ofNat j), .red .i64 true 3 3])) 114 6 = true := by decide +kernel
end Go.Proofs.YtlihfgobifchiaaGreatDoor

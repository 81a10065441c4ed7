/- Runs of the law by the evaluator, in the kernel, its 'awake' taken by its contract: it answers true in every order. No conditions. -/
import Derived.Test.YtlihfgobifchiaaGreatDoorCtH
namespace Go.Proofs.YtlihfgobifchiaaGreatDoor
open Go.VM
set_option maxRecDepth 1000000 in
theorem chunk_0_72 : allFrom (fun j => @runF Tryz.prog hookM isTrue 500000 (startSt Tryz.prog laidL 3 [.int .u8 (Int.ofNat j), .red .i64 true 3 0])) 72 9 = true := by decide +kernel
set_option maxRecDepth 1000000 in
theorem chunk_1_104 : allFrom (fun j => @runF Tryz.prog hookM isTrue 500000 (startSt Tryz.prog laidL 3 [.int .u8 (Int.ofNat j), .red .i64 true 3 1])) 104 8 = true := by decide +kernel
set_option maxRecDepth 1000000 in
theorem chunk_2_105 : allFrom (fun j => @runF Tryz.prog hookM isTrue 500000 (startSt Tryz.prog laidL 3 [.int .u8 (Int.ofNat j), .red .i64 true 3 2])) 105 7 = true := by decide +kernel
set_option maxRecDepth 1000000 in
theorem chunk_3_72 : allFrom (fun j => @runF Tryz.prog hookM isTrue 500000 (startSt Tryz.prog laidL 3 [.int .u8 (Int.ofNat j), .red .i64 true 3 3])) 72 6 = true := by decide +kernel
end Go.Proofs.YtlihfgobifchiaaGreatDoor

/- Runs of the law by the evaluator, in the kernel, its 'awake' taken by its contract: it answers true in every order. No conditions. -/
import Derived.Test.YtlihfgobifchiaaGreatDoorCtH
namespace Go.Proofs.YtlihfgobifchiaaGreatDoor
open Go.VM
set_option maxRecDepth 1000000 in
theorem chunk_0_162 : allFrom (fun j => @runF Tryz.prog hookM isTrue 500000 (startSt Tryz.prog laidL 3 [.int .u8 (Int.ofNat j), .red .i64 true 3 0])) 162 9 = true := by decide +kernel
set_option maxRecDepth 1000000 in
theorem chunk_1_184 : allFrom (fun j => @runF Tryz.prog hookM isTrue 500000 (startSt Tryz.prog laidL 3 [.int .u8 (Int.ofNat j), .red .i64 true 3 1])) 184 8 = true := by decide +kernel
set_option maxRecDepth 1000000 in
theorem chunk_2_175 : allFrom (fun j => @runF Tryz.prog hookM isTrue 500000 (startSt Tryz.prog laidL 3 [.int .u8 (Int.ofNat j), .red .i64 true 3 2])) 175 7 = true := by decide +kernel
set_option maxRecDepth 1000000 in
theorem chunk_3_132 : allFrom (fun j => @runF Tryz.prog hookM isTrue 500000 (startSt Tryz.prog laidL 3 [.int .u8 (Int.ofNat j), .red .i64 true 3 3])) 132 6 = true := by decide +kernel
end Go.Proofs.YtlihfgobifchiaaGreatDoor

/- Runs of the law by the evaluator, in the kernel, its 'awake' taken by its contract: it answers true in every order. No conditions. -/
import Derived.Test.YtlihfgobifchiaaGreatDoorCtH
namespace Go.Proofs.YtlihfgobifchiaaGreatDoor
open Go.VM
set_option maxRecDepth 1000000 in
theorem chunk_0_36 : allFrom (fun j => @runF Tryz.prog hookM isTrue 500000 (startSt Tryz.prog laidL 3 [.int .u8 (Int.ofNat j), .red .i64 true 3 0])) 36 9 = true := by decide +kernel
set_option maxRecDepth 1000000 in
theorem chunk_1_72 : allFrom (fun j => @runF Tryz.prog hookM isTrue 500000 (startSt Tryz.prog laidL 3 [.int .u8 (Int.ofNat j), .red .i64 true 3 1])) 72 8 = true := by decide +kernel
set_option maxRecDepth 1000000 in
theorem chunk_2_77 : allFrom (fun j => @runF Tryz.prog hookM isTrue 500000 (startSt Tryz.prog laidL 3 [.int .u8 (Int.ofNat j), .red .i64 true 3 2])) 77 7 = true := by decide +kernel
set_option maxRecDepth 1000000 in
theorem chunk_3_48 : allFrom (fun j => @runF Tryz.prog hookM isTrue 500000 (startSt Tryz.prog laidL 3 [.int .u8 (Int.ofNat j), .red .i64 true 3 3])) 48 6 = true := by decide +kernel
set_option maxRecDepth 1000000 in
theorem chunk_3_252 : allFrom (fun j => @runF Tryz.prog hookM isTrue 500000 (startSt Tryz.prog laidL 3 [.int .u8 (Int.ofNat j), .red .i64 true 3 3])) 252 4 = true := by decide +kernel
end Go.Proofs.YtlihfgobifchiaaGreatDoor

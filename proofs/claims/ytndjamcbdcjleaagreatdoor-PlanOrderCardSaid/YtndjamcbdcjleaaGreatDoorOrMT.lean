/- Rows of tables of answers: runs by the evaluator, in the kernel. No conditions. -/
import Derived.Test.YtndjamcbdcjleaaGreatDoorOrH
namespace Go.Proofs.YtndjamcbdcjleaaGreatDoor
open Go.VM
set_option maxRecDepth 1000000 in
theorem m0_0 : @rowRun hook0 Tryz.prog laidL 56 key0 ⟨[.str 0 0, .str 2 24879], .tup [.str 1 97, .int .i64 0], []⟩ = true := by decide +kernel
set_option maxRecDepth 1000000 in
theorem m0_1 : @rowRun hook0 Tryz.prog laidL 56 key0 ⟨[.str 0 0, .str 1 97], .tup [.str 1 97, .int .i64 0], []⟩ = true := by decide +kernel
set_option maxRecDepth 1000000 in
theorem m0_2 : @rowRun hook0 Tryz.prog laidL 56 key0 ⟨[.str 0 0, .str 1 47], .tup [.str 0 0, .int .i64 0], []⟩ = true := by decide +kernel
set_option maxRecDepth 1000000 in
theorem m0_3 : @rowRun hook0 Tryz.prog laidL 56 key0 ⟨[.str 0 0, .str 3 6696801], .tup [.str 3 6696801, .int .i64 0], []⟩ = true := by decide +kernel
set_option maxRecDepth 1000000 in
theorem m0_4 : @rowRun hook0 Tryz.prog laidL 56 key0 ⟨[.str 0 0, .str 4 1714381103], .tup [.str 3 6696801, .int .i64 0], []⟩ = true := by decide +kernel
set_option maxRecDepth 1000000 in
theorem m0_5 : @rowRun hook0 Tryz.prog laidL 56 key0 ⟨[.str 0 0, .str 0 0], .tup [.str 0 0, .int .i64 400], []⟩ = true := by decide +kernel
set_option maxRecDepth 1000000 in
theorem m0_6 : @rowRun hook0 Tryz.prog laidL 56 key0 ⟨[.str 0 0, .str 4 1647272239], .tup [.str 3 6434657, .int .i64 0], []⟩ = true := by decide +kernel
set_option maxRecDepth 100000 in
theorem tab0_ok (_ : List AV) : ∀ p ∈ tab0, @rowRun hook0 Tryz.prog laidL 56 key0 p = true := (List.forall_mem_cons.2 ⟨m0_0, (List.forall_mem_cons.2 ⟨m0_1, (List.forall_mem_cons.2 ⟨m0_2, (List.forall_mem_cons.2 ⟨m0_3, (List.forall_mem_cons.2 ⟨m0_4, (List.forall_mem_cons.2 ⟨m0_5, (List.forall_mem_cons.2 ⟨m0_6, (by intro p h; cases h)⟩)⟩)⟩)⟩)⟩)⟩)⟩)
end Go.Proofs.YtndjamcbdcjleaaGreatDoor

/- Rows of tables of answers: runs by the evaluator, in the kernel. No conditions. -/
import Derived.Test.YtlihfgobifchiaaGreatDoorCtH
namespace Go.Proofs.YtlihfgobifchiaaGreatDoor
open Go.VM
set_option maxRecDepth 1000000 in
theorem m0_0 : @rowRun hook0 Tryz.prog laidL 121 key0 ⟨[.str 0 0, .str 1 102], .tup [.str 1 102, .int .i64 0], []⟩ = true := by decide +kernel
set_option maxRecDepth 1000000 in
theorem m0_1 : @rowRun hook0 Tryz.prog laidL 121 key0 ⟨[.str 0 0, .str 2 26159], .tup [.str 1 102, .int .i64 0], []⟩ = true := by decide +kernel
set_option maxRecDepth 1000000 in
theorem m0_2 : @rowRun hook0 Tryz.prog laidL 121 key0 ⟨[.str 0 0, .str 1 100], .tup [.str 1 100, .int .i64 0], []⟩ = true := by decide +kernel
set_option maxRecDepth 1000000 in
theorem m0_3 : @rowRun hook0 Tryz.prog laidL 121 key0 ⟨[.str 0 0, .str 4 1714381103], .tup [.str 3 6696801, .int .i64 0], []⟩ = true := by decide +kernel
set_option maxRecDepth 100000 in
theorem tab0_ok (_ : List AV) : ∀ p ∈ tab0, @rowRun hook0 Tryz.prog laidL 121 key0 p = true := (List.forall_mem_cons.2 ⟨m0_0, (List.forall_mem_cons.2 ⟨m0_1, (List.forall_mem_cons.2 ⟨m0_2, (List.forall_mem_cons.2 ⟨m0_3, (by intro p h; cases h)⟩)⟩)⟩)⟩)
end Go.Proofs.YtlihfgobifchiaaGreatDoor

/- Rows of tables of answers: runs by the evaluator, in the kernel. No conditions. -/
import Derived.Test.YtpdgopgcodmilaaGreatDoorCrH
namespace Go.Proofs.YtpdgopgcodmilaaGreatDoor
open Go.VM
set_option maxRecDepth 1000000 in
theorem m0_0 : @rowRun hook0 Tryz.prog laidL 106 key0 ⟨[.str 0 0, .str 3 3171887], .tup [.str 2 12390, .int .i64 0], []⟩ = true := by decide +kernel
set_option maxRecDepth 1000000 in
theorem m0_1 : @rowRun hook0 Tryz.prog laidL 106 key0 ⟨[.str 0 0, .str 3 3237423], .tup [.str 2 12646, .int .i64 0], []⟩ = true := by decide +kernel
set_option maxRecDepth 1000000 in
theorem m0_2 : @rowRun hook0 Tryz.prog laidL 106 key0 ⟨[.str 0 0, .str 3 3302959], .tup [.str 2 12902, .int .i64 0], []⟩ = true := by decide +kernel
set_option maxRecDepth 1000000 in
theorem m0_3 : @rowRun hook0 Tryz.prog laidL 106 key0 ⟨[.str 0 0, .str 3 3368495], .tup [.str 2 13158, .int .i64 0], []⟩ = true := by decide +kernel
set_option maxRecDepth 1000000 in
theorem m0_4 : @rowRun hook0 Tryz.prog laidL 106 key0 ⟨[.str 0 0, .str 3 3434031], .tup [.str 2 13414, .int .i64 0], []⟩ = true := by decide +kernel
set_option maxRecDepth 1000000 in
theorem m0_5 : @rowRun hook0 Tryz.prog laidL 106 key0 ⟨[.str 0 0, .str 3 3499567], .tup [.str 2 13670, .int .i64 0], []⟩ = true := by decide +kernel
set_option maxRecDepth 1000000 in
theorem m0_6 : @rowRun hook0 Tryz.prog laidL 106 key0 ⟨[.str 0 0, .str 3 3565103], .tup [.str 2 13926, .int .i64 0], []⟩ = true := by decide +kernel
set_option maxRecDepth 1000000 in
theorem m0_7 : @rowRun hook0 Tryz.prog laidL 106 key0 ⟨[.str 0 0, .str 3 3630639], .tup [.str 2 14182, .int .i64 0], []⟩ = true := by decide +kernel
set_option maxRecDepth 1000000 in
theorem m0_8 : @rowRun hook0 Tryz.prog laidL 106 key0 ⟨[.str 0 0, .str 3 3696175], .tup [.str 2 14438, .int .i64 0], []⟩ = true := by decide +kernel
set_option maxRecDepth 1000000 in
theorem m0_9 : @rowRun hook0 Tryz.prog laidL 106 key0 ⟨[.str 0 0, .str 2 12390], .tup [.str 2 12390, .int .i64 0], []⟩ = true := by decide +kernel
set_option maxRecDepth 1000000 in
theorem m0_10 : @rowRun hook0 Tryz.prog laidL 106 key0 ⟨[.str 0 0, .str 2 12646], .tup [.str 2 12646, .int .i64 0], []⟩ = true := by decide +kernel
set_option maxRecDepth 1000000 in
theorem m0_11 : @rowRun hook0 Tryz.prog laidL 106 key0 ⟨[.str 0 0, .str 2 12902], .tup [.str 2 12902, .int .i64 0], []⟩ = true := by decide +kernel
set_option maxRecDepth 1000000 in
theorem m0_12 : @rowRun hook0 Tryz.prog laidL 106 key0 ⟨[.str 0 0, .str 2 13158], .tup [.str 2 13158, .int .i64 0], []⟩ = true := by decide +kernel
set_option maxRecDepth 1000000 in
theorem m0_13 : @rowRun hook0 Tryz.prog laidL 106 key0 ⟨[.str 0 0, .str 2 13414], .tup [.str 2 13414, .int .i64 0], []⟩ = true := by decide +kernel
set_option maxRecDepth 1000000 in
theorem m0_14 : @rowRun hook0 Tryz.prog laidL 106 key0 ⟨[.str 0 0, .str 2 13670], .tup [.str 2 13670, .int .i64 0], []⟩ = true := by decide +kernel
set_option maxRecDepth 1000000 in
theorem m0_15 : @rowRun hook0 Tryz.prog laidL 106 key0 ⟨[.str 0 0, .str 2 13926], .tup [.str 2 13926, .int .i64 0], []⟩ = true := by decide +kernel
set_option maxRecDepth 1000000 in
theorem m0_16 : @rowRun hook0 Tryz.prog laidL 106 key0 ⟨[.str 0 0, .str 2 14182], .tup [.str 2 14182, .int .i64 0], []⟩ = true := by decide +kernel
set_option maxRecDepth 1000000 in
theorem m0_17 : @rowRun hook0 Tryz.prog laidL 106 key0 ⟨[.str 0 0, .str 2 14438], .tup [.str 2 14438, .int .i64 0], []⟩ = true := by decide +kernel
set_option maxRecDepth 1000000 in
theorem m0_18 : @rowRun hook0 Tryz.prog laidL 106 key0 ⟨[.str 0 0, .str 1 47], .tup [.str 0 0, .int .i64 0], []⟩ = true := by decide +kernel
set_option maxRecDepth 100000 in
theorem tab0_ok (_ : List AV) : ∀ p ∈ tab0, @rowRun hook0 Tryz.prog laidL 106 key0 p = true := (List.forall_mem_cons.2 ⟨m0_0, (List.forall_mem_cons.2 ⟨m0_1, (List.forall_mem_cons.2 ⟨m0_2, (List.forall_mem_cons.2 ⟨m0_3, (List.forall_mem_cons.2 ⟨m0_4, (List.forall_mem_cons.2 ⟨m0_5, (List.forall_mem_cons.2 ⟨m0_6, (List.forall_mem_cons.2 ⟨m0_7, (List.forall_mem_cons.2 ⟨m0_8, (List.forall_mem_cons.2 ⟨m0_9, (List.forall_mem_cons.2 ⟨m0_10, (List.forall_mem_cons.2 ⟨m0_11, (List.forall_mem_cons.2 ⟨m0_12, (List.forall_mem_cons.2 ⟨m0_13, (List.forall_mem_cons.2 ⟨m0_14, (List.forall_mem_cons.2 ⟨m0_15, (List.forall_mem_cons.2 ⟨m0_16, (List.forall_mem_cons.2 ⟨m0_17, (List.forall_mem_cons.2 ⟨m0_18, (by intro p h; cases h)⟩)⟩)⟩)⟩)⟩)⟩)⟩)⟩)⟩)⟩)⟩)⟩)⟩)⟩)⟩)⟩)⟩)⟩)⟩)
end Go.Proofs.YtpdgopgcodmilaaGreatDoor

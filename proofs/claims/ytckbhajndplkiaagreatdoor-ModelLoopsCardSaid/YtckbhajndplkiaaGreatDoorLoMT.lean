/- Rows of tables of answers: runs by the evaluator, in the kernel. No conditions. -/
import Derived.Test.YtckbhajndplkiaaGreatDoorLoH
namespace Go.Proofs.YtckbhajndplkiaaGreatDoor
open Go.VM
set_option maxRecDepth 1000000 in
theorem m0_0 : @rowRun hook0 Tryz.prog laidL 122 key0 ⟨[.str 0 0, .str 1 97], .tup [.str 1 97, .int .i64 0], []⟩ = true := by decide +kernel
set_option maxRecDepth 1000000 in
theorem m0_1 : @rowRun hook0 Tryz.prog laidL 122 key0 ⟨[.str 0 0, .str 2 24879], .tup [.str 1 97, .int .i64 0], []⟩ = true := by decide +kernel
set_option maxRecDepth 1000000 in
theorem m0_2 : @rowRun hook0 Tryz.prog laidL 122 key0 ⟨[.str 0 0, .str 1 98], .tup [.str 1 98, .int .i64 0], []⟩ = true := by decide +kernel
set_option maxRecDepth 1000000 in
theorem m0_3 : @rowRun hook0 Tryz.prog laidL 122 key0 ⟨[.str 0 0, .str 4 1684956463], .tup [.str 3 6581861, .int .i64 0], []⟩ = true := by decide +kernel
set_option maxRecDepth 1000000 in
theorem m0_4 : @rowRun hook0 Tryz.prog laidL 122 key0 ⟨[.str 0 0, .str 2 25647], .tup [.str 1 100, .int .i64 0], []⟩ = true := by decide +kernel
set_option maxRecDepth 1000000 in
theorem m0_5 : @rowRun hook0 Tryz.prog laidL 122 key0 ⟨[.str 0 0, .str 3 6581861], .tup [.str 3 6581861, .int .i64 0], []⟩ = true := by decide +kernel
set_option maxRecDepth 1000000 in
theorem m0_6 : @rowRun hook0 Tryz.prog laidL 122 key0 ⟨[.str 0 0, .str 3 3173423], .tup [.str 2 12396, .int .i64 0], []⟩ = true := by decide +kernel
set_option maxRecDepth 1000000 in
theorem m0_7 : @rowRun hook0 Tryz.prog laidL 122 key0 ⟨[.str 0 0, .str 1 100], .tup [.str 1 100, .int .i64 0], []⟩ = true := by decide +kernel
set_option maxRecDepth 1000000 in
theorem m0_8 : @rowRun hook0 Tryz.prog laidL 122 key0 ⟨[.str 0 0, .str 2 25903], .tup [.str 1 101, .int .i64 0], []⟩ = true := by decide +kernel
set_option maxRecDepth 1000000 in
theorem m0_9 : @rowRun hook0 Tryz.prog laidL 122 key0 ⟨[.str 0 0, .str 2 25135], .tup [.str 1 98, .int .i64 0], []⟩ = true := by decide +kernel
set_option maxRecDepth 1000000 in
theorem m0_10 : @rowRun hook0 Tryz.prog laidL 122 key0 ⟨[.str 0 0, .str 3 3238959], .tup [.str 2 12652, .int .i64 0], []⟩ = true := by decide +kernel
set_option maxRecDepth 1000000 in
theorem m0_11 : @rowRun hook0 Tryz.prog laidL 122 key0 ⟨[.str 0 0, .str 3 3304495], .tup [.str 2 12908, .int .i64 0], []⟩ = true := by decide +kernel
set_option maxRecDepth 1000000 in
theorem m0_12 : @rowRun hook0 Tryz.prog laidL 122 key0 ⟨[.str 0 0, .str 3 3370031], .tup [.str 2 13164, .int .i64 0], []⟩ = true := by decide +kernel
set_option maxRecDepth 1000000 in
theorem m0_13 : @rowRun hook0 Tryz.prog laidL 122 key0 ⟨[.str 0 0, .str 3 3435567], .tup [.str 2 13420, .int .i64 0], []⟩ = true := by decide +kernel
set_option maxRecDepth 1000000 in
theorem m0_14 : @rowRun hook0 Tryz.prog laidL 122 key0 ⟨[.str 0 0, .str 2 12396], .tup [.str 2 12396, .int .i64 0], []⟩ = true := by decide +kernel
set_option maxRecDepth 1000000 in
theorem m0_15 : @rowRun hook0 Tryz.prog laidL 122 key0 ⟨[.str 0 0, .str 2 12652], .tup [.str 2 12652, .int .i64 0], []⟩ = true := by decide +kernel
set_option maxRecDepth 1000000 in
theorem m0_16 : @rowRun hook0 Tryz.prog laidL 122 key0 ⟨[.str 0 0, .str 3 3501103], .tup [.str 2 13676, .int .i64 0], []⟩ = true := by decide +kernel
set_option maxRecDepth 1000000 in
theorem m0_17 : @rowRun hook0 Tryz.prog laidL 122 key0 ⟨[.str 0 0, .str 2 12908], .tup [.str 2 12908, .int .i64 0], []⟩ = true := by decide +kernel
set_option maxRecDepth 1000000 in
theorem m0_18 : @rowRun hook0 Tryz.prog laidL 122 key0 ⟨[.str 0 0, .str 2 13164], .tup [.str 2 13164, .int .i64 0], []⟩ = true := by decide +kernel
set_option maxRecDepth 1000000 in
theorem m0_19 : @rowRun hook0 Tryz.prog laidL 122 key0 ⟨[.str 0 0, .str 3 3566639], .tup [.str 2 13932, .int .i64 0], []⟩ = true := by decide +kernel
set_option maxRecDepth 1000000 in
theorem m0_20 : @rowRun hook0 Tryz.prog laidL 122 key0 ⟨[.str 0 0, .str 2 13420], .tup [.str 2 13420, .int .i64 0], []⟩ = true := by decide +kernel
set_option maxRecDepth 1000000 in
theorem m0_21 : @rowRun hook0 Tryz.prog laidL 122 key0 ⟨[.str 0 0, .str 2 13676], .tup [.str 2 13676, .int .i64 0], []⟩ = true := by decide +kernel
set_option maxRecDepth 1000000 in
theorem m0_22 : @rowRun hook0 Tryz.prog laidL 122 key0 ⟨[.str 0 0, .str 3 3632175], .tup [.str 2 14188, .int .i64 0], []⟩ = true := by decide +kernel
set_option maxRecDepth 1000000 in
theorem m0_23 : @rowRun hook0 Tryz.prog laidL 122 key0 ⟨[.str 0 0, .str 2 13932], .tup [.str 2 13932, .int .i64 0], []⟩ = true := by decide +kernel
set_option maxRecDepth 1000000 in
theorem m0_24 : @rowRun hook0 Tryz.prog laidL 122 key0 ⟨[.str 0 0, .str 2 14188], .tup [.str 2 14188, .int .i64 0], []⟩ = true := by decide +kernel
set_option maxRecDepth 1000000 in
theorem m0_25 : @rowRun hook0 Tryz.prog laidL 122 key0 ⟨[.str 0 0, .str 3 3697711], .tup [.str 2 14444, .int .i64 0], []⟩ = true := by decide +kernel
set_option maxRecDepth 1000000 in
theorem m0_26 : @rowRun hook0 Tryz.prog laidL 122 key0 ⟨[.str 0 0, .str 1 101], .tup [.str 1 101, .int .i64 0], []⟩ = true := by decide +kernel
set_option maxRecDepth 1000000 in
theorem m0_27 : @rowRun hook0 Tryz.prog laidL 122 key0 ⟨[.str 0 0, .str 2 14444], .tup [.str 2 14444, .int .i64 0], []⟩ = true := by decide +kernel
set_option maxRecDepth 1000000 in
theorem m0_28 : @rowRun hook0 Tryz.prog laidL 122 key0 ⟨[.str 0 0, .str 3 3763247], .tup [.str 2 14700, .int .i64 0], []⟩ = true := by decide +kernel
set_option maxRecDepth 1000000 in
theorem m0_29 : @rowRun hook0 Tryz.prog laidL 122 key0 ⟨[.str 0 0, .str 2 14700], .tup [.str 2 14700, .int .i64 0], []⟩ = true := by decide +kernel
set_option maxRecDepth 1000000 in
theorem m0_30 : @rowRun hook0 Tryz.prog laidL 122 key0 ⟨[.str 0 0, .str 4 808545327], .tup [.str 3 3158380, .int .i64 0], []⟩ = true := by decide +kernel
set_option maxRecDepth 1000000 in
theorem m0_31 : @rowRun hook0 Tryz.prog laidL 122 key0 ⟨[.str 0 0, .str 3 3158380], .tup [.str 3 3158380, .int .i64 0], []⟩ = true := by decide +kernel
set_option maxRecDepth 1000000 in
theorem m0_32 : @rowRun hook0 Tryz.prog laidL 122 key0 ⟨[.str 0 0, .str 4 825322543], .tup [.str 3 3223916, .int .i64 0], []⟩ = true := by decide +kernel
set_option maxRecDepth 1000000 in
theorem m0_33 : @rowRun hook0 Tryz.prog laidL 122 key0 ⟨[.str 0 0, .str 3 3223916], .tup [.str 3 3223916, .int .i64 0], []⟩ = true := by decide +kernel
set_option maxRecDepth 1000000 in
theorem m0_34 : @rowRun hook0 Tryz.prog laidL 122 key0 ⟨[.str 0 0, .str 4 842099759], .tup [.str 3 3289452, .int .i64 0], []⟩ = true := by decide +kernel
set_option maxRecDepth 1000000 in
theorem m0_35 : @rowRun hook0 Tryz.prog laidL 122 key0 ⟨[.str 0 0, .str 3 3289452], .tup [.str 3 3289452, .int .i64 0], []⟩ = true := by decide +kernel
set_option maxRecDepth 1000000 in
theorem m0_36 : @rowRun hook0 Tryz.prog laidL 122 key0 ⟨[.str 0 0, .str 4 858876975], .tup [.str 3 3354988, .int .i64 0], []⟩ = true := by decide +kernel
set_option maxRecDepth 1000000 in
theorem m0_37 : @rowRun hook0 Tryz.prog laidL 122 key0 ⟨[.str 0 0, .str 3 3354988], .tup [.str 3 3354988, .int .i64 0], []⟩ = true := by decide +kernel
set_option maxRecDepth 1000000 in
theorem m0_38 : @rowRun hook0 Tryz.prog laidL 122 key0 ⟨[.str 0 0, .str 4 875654191], .tup [.str 3 3420524, .int .i64 0], []⟩ = true := by decide +kernel
set_option maxRecDepth 1000000 in
theorem m0_39 : @rowRun hook0 Tryz.prog laidL 122 key0 ⟨[.str 0 0, .str 3 3420524], .tup [.str 3 3420524, .int .i64 0], []⟩ = true := by decide +kernel
set_option maxRecDepth 1000000 in
theorem m0_40 : @rowRun hook0 Tryz.prog laidL 122 key0 ⟨[.str 0 0, .str 4 892431407], .tup [.str 3 3486060, .int .i64 0], []⟩ = true := by decide +kernel
set_option maxRecDepth 1000000 in
theorem m0_41 : @rowRun hook0 Tryz.prog laidL 122 key0 ⟨[.str 0 0, .str 3 3486060], .tup [.str 3 3486060, .int .i64 0], []⟩ = true := by decide +kernel
set_option maxRecDepth 100000 in
theorem tab0_ok (_ : List AV) : ∀ p ∈ tab0, @rowRun hook0 Tryz.prog laidL 122 key0 p = true := (List.forall_mem_cons.2 ⟨m0_0, (List.forall_mem_cons.2 ⟨m0_1, (List.forall_mem_cons.2 ⟨m0_2, (List.forall_mem_cons.2 ⟨m0_3, (List.forall_mem_cons.2 ⟨m0_4, (List.forall_mem_cons.2 ⟨m0_5, (List.forall_mem_cons.2 ⟨m0_6, (List.forall_mem_cons.2 ⟨m0_7, (List.forall_mem_cons.2 ⟨m0_8, (List.forall_mem_cons.2 ⟨m0_9, (List.forall_mem_cons.2 ⟨m0_10, (List.forall_mem_cons.2 ⟨m0_11, (List.forall_mem_cons.2 ⟨m0_12, (List.forall_mem_cons.2 ⟨m0_13, (List.forall_mem_cons.2 ⟨m0_14, (List.forall_mem_cons.2 ⟨m0_15, (List.forall_mem_cons.2 ⟨m0_16, (List.forall_mem_cons.2 ⟨m0_17, (List.forall_mem_cons.2 ⟨m0_18, (List.forall_mem_cons.2 ⟨m0_19, (List.forall_mem_cons.2 ⟨m0_20, (List.forall_mem_cons.2 ⟨m0_21, (List.forall_mem_cons.2 ⟨m0_22, (List.forall_mem_cons.2 ⟨m0_23, (List.forall_mem_cons.2 ⟨m0_24, (List.forall_mem_cons.2 ⟨m0_25, (List.forall_mem_cons.2 ⟨m0_26, (List.forall_mem_cons.2 ⟨m0_27, (List.forall_mem_cons.2 ⟨m0_28, (List.forall_mem_cons.2 ⟨m0_29, (List.forall_mem_cons.2 ⟨m0_30, (List.forall_mem_cons.2 ⟨m0_31, (List.forall_mem_cons.2 ⟨m0_32, (List.forall_mem_cons.2 ⟨m0_33, (List.forall_mem_cons.2 ⟨m0_34, (List.forall_mem_cons.2 ⟨m0_35, (List.forall_mem_cons.2 ⟨m0_36, (List.forall_mem_cons.2 ⟨m0_37, (List.forall_mem_cons.2 ⟨m0_38, (List.forall_mem_cons.2 ⟨m0_39, (List.forall_mem_cons.2 ⟨m0_40, (List.forall_mem_cons.2 ⟨m0_41, (by intro p h; cases h)⟩)⟩)⟩)⟩)⟩)⟩)⟩)⟩)⟩)⟩)⟩)⟩)⟩)⟩)⟩)⟩)⟩)⟩)⟩)⟩)⟩)⟩)⟩)⟩)⟩)⟩)⟩)⟩)⟩)⟩)⟩)⟩)⟩)⟩)⟩)⟩)⟩)⟩)⟩)⟩)⟩)⟩)
end Go.Proofs.YtckbhajndplkiaaGreatDoor

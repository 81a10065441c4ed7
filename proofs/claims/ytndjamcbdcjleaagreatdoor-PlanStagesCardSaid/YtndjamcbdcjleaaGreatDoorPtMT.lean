/- Rows of tables of answers: runs by the evaluator, in the kernel. No conditions. -/
import Derived.Test.YtndjamcbdcjleaaGreatDoorPtH
namespace Go.Proofs.YtndjamcbdcjleaaGreatDoor
open Go.VM
set_option maxRecDepth 1000000 in
theorem m0_0 : @rowRun hook0 Tryz.prog laidL 56 key0 ⟨[.str 0 0, .str 5 491327616111], .tup [.str 5 491327616111, .int .i64 0], []⟩ = true := by decide +kernel
set_option maxRecDepth 1000000 in
theorem m0_1 : @rowRun hook0 Tryz.prog laidL 56 key0 ⟨[.str 0 0, .str 2 24879], .tup [.str 1 97, .int .i64 0], []⟩ = true := by decide +kernel
set_option maxRecDepth 1000000 in
theorem m0_2 : @rowRun hook0 Tryz.prog laidL 56 key0 ⟨[.str 0 0, .str 6 53212033936687], .tup [.str 5 207859507565, .int .i64 0], []⟩ = true := by decide +kernel
set_option maxRecDepth 1000000 in
theorem m0_3 : @rowRun hook0 Tryz.prog laidL 56 key0 ⟨[.str 0 0, .str 9 2036721178017972448559], .tup [.str 8 7955942101632704877, .int .i64 0], []⟩ = true := by decide +kernel
set_option maxRecDepth 1000000 in
theorem m0_4 : @rowRun hook0 Tryz.prog laidL 56 key0 ⟨[.str 0 0, .str 6 125779869724463], .tup [.str 5 491327616111, .int .i64 0], []⟩ = true := by decide +kernel
set_option maxRecDepth 1000000 in
theorem m0_5 : @rowRun hook0 Tryz.prog laidL 56 key0 ⟨[.str 0 0, .str 7 31077899976009519], .tup [.str 6 121398046781287, .int .i64 0], []⟩ = true := by decide +kernel
set_option maxRecDepth 1000000 in
theorem m0_6 : @rowRun hook0 Tryz.prog laidL 56 key0 ⟨[.str 0 0, .str 6 54311545564463], .tup [.str 5 212154474861, .int .i64 0], []⟩ = true := by decide +kernel
set_option maxRecDepth 1000000 in
theorem m0_7 : @rowRun hook0 Tryz.prog laidL 56 key0 ⟨[.str 0 0, .str 9 2036721179117484076335], .tup [.str 8 7955942105927672173, .int .i64 0], []⟩ = true := by decide +kernel
set_option maxRecDepth 1000000 in
theorem m0_8 : @rowRun hook0 Tryz.prog laidL 56 key0 ⟨[.str 0 0, .str 6 55411057192239], .tup [.str 5 216449442157, .int .i64 0], []⟩ = true := by decide +kernel
set_option maxRecDepth 1000000 in
theorem m0_9 : @rowRun hook0 Tryz.prog laidL 56 key0 ⟨[.str 0 0, .str 9 2036721180216995704111], .tup [.str 8 7955942110222639469, .int .i64 0], []⟩ = true := by decide +kernel
set_option maxRecDepth 1000000 in
theorem m0_10 : @rowRun hook0 Tryz.prog laidL 56 key0 ⟨[.str 0 0, .str 1 97], .tup [.str 1 97, .int .i64 0], []⟩ = true := by decide +kernel
set_option maxRecDepth 1000000 in
theorem m0_11 : @rowRun hook0 Tryz.prog laidL 56 key0 ⟨[.str 0 0, .str 1 47], .tup [.str 0 0, .int .i64 0], []⟩ = true := by decide +kernel
set_option maxRecDepth 1000000 in
theorem m0_12 : @rowRun hook0 Tryz.prog laidL 56 key0 ⟨[.str 0 0, .str 3 6696801], .tup [.str 3 6696801, .int .i64 0], []⟩ = true := by decide +kernel
set_option maxRecDepth 1000000 in
theorem m0_13 : @rowRun hook0 Tryz.prog laidL 56 key0 ⟨[.str 0 0, .str 8 7955942101632704877], .tup [.str 8 7955942101632704877, .int .i64 0], []⟩ = true := by decide +kernel
set_option maxRecDepth 1000000 in
theorem m0_14 : @rowRun hook0 Tryz.prog laidL 56 key0 ⟨[.str 0 0, .str 3 7630695], .tup [.str 3 7630695, .int .i64 0], []⟩ = true := by decide +kernel
set_option maxRecDepth 1000000 in
theorem m0_15 : @rowRun hook0 Tryz.prog laidL 56 key0 ⟨[.str 0 0, .str 4 1953457967], .tup [.str 3 7630695, .int .i64 0], []⟩ = true := by decide +kernel
set_option maxRecDepth 1000000 in
theorem m0_16 : @rowRun hook0 Tryz.prog laidL 56 key0 ⟨[.str 0 0, .str 8 7955942105927672173], .tup [.str 8 7955942105927672173, .int .i64 0], []⟩ = true := by decide +kernel
set_option maxRecDepth 1000000 in
theorem m0_17 : @rowRun hook0 Tryz.prog laidL 56 key0 ⟨[.str 0 0, .str 8 7955942110222639469], .tup [.str 8 7955942110222639469, .int .i64 0], []⟩ = true := by decide +kernel
set_option maxRecDepth 1000000 in
theorem m0_18 : @rowRun hook0 Tryz.prog laidL 56 key0 ⟨[.str 0 0, .str 6 56510568820015], .tup [.str 5 220744409453, .int .i64 0], []⟩ = true := by decide +kernel
set_option maxRecDepth 1000000 in
theorem m0_19 : @rowRun hook0 Tryz.prog laidL 56 key0 ⟨[.str 0 0, .str 9 2036721181316507331887], .tup [.str 8 7955942114517606765, .int .i64 0], []⟩ = true := by decide +kernel
set_option maxRecDepth 1000000 in
theorem m0_20 : @rowRun hook0 Tryz.prog laidL 56 key0 ⟨[.str 0 0, .str 4 1714381103], .tup [.str 3 6696801, .int .i64 0], []⟩ = true := by decide +kernel
set_option maxRecDepth 1000000 in
theorem m0_21 : @rowRun hook0 Tryz.prog laidL 56 key0 ⟨[.str 0 0, .str 5 207859507565], .tup [.str 5 207859507565, .int .i64 0], []⟩ = true := by decide +kernel
set_option maxRecDepth 1000000 in
theorem m0_22 : @rowRun hook0 Tryz.prog laidL 56 key0 ⟨[.str 0 0, .str 8 7955942114517606765], .tup [.str 8 7955942114517606765, .int .i64 0], []⟩ = true := by decide +kernel
set_option maxRecDepth 1000000 in
theorem m0_23 : @rowRun hook0 Tryz.prog laidL 56 key0 ⟨[.str 0 0, .str 5 212154474861], .tup [.str 5 212154474861, .int .i64 0], []⟩ = true := by decide +kernel
set_option maxRecDepth 1000000 in
theorem m0_24 : @rowRun hook0 Tryz.prog laidL 56 key0 ⟨[.str 0 0, .str 5 216449442157], .tup [.str 5 216449442157, .int .i64 0], []⟩ = true := by decide +kernel
set_option maxRecDepth 1000000 in
theorem m0_25 : @rowRun hook0 Tryz.prog laidL 56 key0 ⟨[.str 0 0, .str 5 220744409453], .tup [.str 5 220744409453, .int .i64 0], []⟩ = true := by decide +kernel
set_option maxRecDepth 100000 in
theorem tab0_ok (_ : List AV) : ∀ p ∈ tab0, @rowRun hook0 Tryz.prog laidL 56 key0 p = true := (List.forall_mem_cons.2 ⟨m0_0, (List.forall_mem_cons.2 ⟨m0_1, (List.forall_mem_cons.2 ⟨m0_2, (List.forall_mem_cons.2 ⟨m0_3, (List.forall_mem_cons.2 ⟨m0_4, (List.forall_mem_cons.2 ⟨m0_5, (List.forall_mem_cons.2 ⟨m0_6, (List.forall_mem_cons.2 ⟨m0_7, (List.forall_mem_cons.2 ⟨m0_8, (List.forall_mem_cons.2 ⟨m0_9, (List.forall_mem_cons.2 ⟨m0_10, (List.forall_mem_cons.2 ⟨m0_11, (List.forall_mem_cons.2 ⟨m0_12, (List.forall_mem_cons.2 ⟨m0_13, (List.forall_mem_cons.2 ⟨m0_14, (List.forall_mem_cons.2 ⟨m0_15, (List.forall_mem_cons.2 ⟨m0_16, (List.forall_mem_cons.2 ⟨m0_17, (List.forall_mem_cons.2 ⟨m0_18, (List.forall_mem_cons.2 ⟨m0_19, (List.forall_mem_cons.2 ⟨m0_20, (List.forall_mem_cons.2 ⟨m0_21, (List.forall_mem_cons.2 ⟨m0_22, (List.forall_mem_cons.2 ⟨m0_23, (List.forall_mem_cons.2 ⟨m0_24, (List.forall_mem_cons.2 ⟨m0_25, (by intro p h; cases h)⟩)⟩)⟩)⟩)⟩)⟩)⟩)⟩)⟩)⟩)⟩)⟩)⟩)⟩)⟩)⟩)⟩)⟩)⟩)⟩)⟩)⟩)⟩)⟩)⟩)⟩)
end Go.Proofs.YtndjamcbdcjleaaGreatDoor

/- Rows of tables of answers: runs by the evaluator, in the kernel. No conditions. -/
import Derived.Test.YtkihpkcfneeelaaGreatDoorDiH
namespace Go.Proofs.YtkihpkcfneeelaaGreatDoor
open Go.VM
set_option maxRecDepth 1000000 in
theorem m0_0 : @rowRun hook0 Tryz.prog laidL 121 key0 ⟨[.str 0 0, .str 2 25647], .tup [.str 1 100, .int .i64 0], []⟩ = true := by decide +kernel
set_option maxRecDepth 1000000 in
theorem m0_1 : @rowRun hook0 Tryz.prog laidL 121 key0 ⟨[.str 0 0, .str 4 1680827439], .tup [.str 3 6565732, .int .i64 0], []⟩ = true := by decide +kernel
set_option maxRecDepth 1000000 in
theorem m0_2 : @rowRun hook0 Tryz.prog laidL 121 key0 ⟨[.str 0 0, .str 6 110154707067951], .tup [.str 5 430291824484, .int .i64 0], []⟩ = true := by decide +kernel
set_option maxRecDepth 1000000 in
theorem m0_3 : @rowRun hook0 Tryz.prog laidL 121 key0 ⟨[.str 0 0, .str 8 7219098882405262383], .tup [.str 7 28199605009395556, .int .i64 0], []⟩ = true := by decide +kernel
set_option maxRecDepth 1000000 in
theorem m0_4 : @rowRun hook0 Tryz.prog laidL 121 key0 ⟨[.str 0 0, .str 10 473110864357311275557935], .tup [.str 9 1848089313895747170148, .int .i64 0], []⟩ = true := by decide +kernel
set_option maxRecDepth 1000000 in
theorem m0_5 : @rowRun hook0 Tryz.prog laidL 121 key0 ⟨[.str 0 0, .str 1 47], .tup [.str 0 0, .int .i64 0], []⟩ = true := by decide +kernel
set_option maxRecDepth 1000000 in
theorem m0_6 : @rowRun hook0 Tryz.prog laidL 121 key0 ⟨[.str 0 0, .str 12 31005793606520751754964853807], .tup [.str 11 121116381275471686542831460, .int .i64 0], []⟩ = true := by decide +kernel
set_option maxRecDepth 1000000 in
theorem m0_7 : @rowRun hook0 Tryz.prog laidL 121 key0 ⟨[.str 0 0, .str 14 2031995689796943987013376659121199], .tup [.str 13 7937483163269312449271002574692, .int .i64 0], []⟩ = true := by decide +kernel
set_option maxRecDepth 1000000 in
theorem m0_8 : @rowRun hook0 Tryz.prog laidL 121 key0 ⟨[.str 0 0, .str 1 100], .tup [.str 1 100, .int .i64 0], []⟩ = true := by decide +kernel
set_option maxRecDepth 1000000 in
theorem m0_9 : @rowRun hook0 Tryz.prog laidL 121 key0 ⟨[.str 0 0, .str 2 25903], .tup [.str 1 101, .int .i64 0], []⟩ = true := by decide +kernel
set_option maxRecDepth 1000000 in
theorem m0_10 : @rowRun hook0 Tryz.prog laidL 121 key0 ⟨[.str 0 0, .str 16 133168869526532521132908652732166923311], .tup [.str 15 520190896588017660675424424735027044, .int .i64 0], []⟩ = true := by decide +kernel
set_option maxRecDepth 1000000 in
theorem m0_11 : @rowRun hook0 Tryz.prog laidL 121 key0 ⟨[.str 0 0, .str 1 101], .tup [.str 1 101, .int .i64 0], []⟩ = true := by decide +kernel
set_option maxRecDepth 1000000 in
theorem m0_12 : @rowRun hook0 Tryz.prog laidL 121 key0 ⟨[.str 0 0, .str 18 8727355033290835304966301465455291486135343], .tup [.str 0 0, .int .i64 402], []⟩ = true := by decide +kernel
set_option maxRecDepth 100000 in
theorem tab0_ok : ∀ p ∈ tab0, @rowRun hook0 Tryz.prog laidL 121 key0 p = true := (List.forall_mem_cons.2 ⟨m0_0, (List.forall_mem_cons.2 ⟨m0_1, (List.forall_mem_cons.2 ⟨m0_2, (List.forall_mem_cons.2 ⟨m0_3, (List.forall_mem_cons.2 ⟨m0_4, (List.forall_mem_cons.2 ⟨m0_5, (List.forall_mem_cons.2 ⟨m0_6, (List.forall_mem_cons.2 ⟨m0_7, (List.forall_mem_cons.2 ⟨m0_8, (List.forall_mem_cons.2 ⟨m0_9, (List.forall_mem_cons.2 ⟨m0_10, (List.forall_mem_cons.2 ⟨m0_11, (List.forall_mem_cons.2 ⟨m0_12, (by intro p h; cases h)⟩)⟩)⟩)⟩)⟩)⟩)⟩)⟩)⟩)⟩)⟩)⟩)⟩)
end Go.Proofs.YtkihpkcfneeelaaGreatDoor

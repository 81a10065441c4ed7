/- Rows of tables of answers: runs by the evaluator, in the kernel. No conditions. -/
import Derived.Test.YtbblahphgmkgnaaGreatDoorTyH
import Derived.Test.YtbblahphgmkgnaaGreatDoorTyMT00
import Derived.Test.YtbblahphgmkgnaaGreatDoorTyMT04
namespace Go.Proofs.YtbblahphgmkgnaaGreatDoor
open Go.VM
theorem tab0_ok (a : List AV) (r : Row) (h : r ∈ bkt tab0 a) : @rowRun hook0 Tryz.prog laidL 301 key0 r = true :=
  bkt_mem (p := @rowRun hook0 Tryz.prog laidL 301 key0) (t := tab0) (N8.allb_mk (N8.allb_mk t0_00_ok t0_01_ok t0_02_ok t0_03_ok t0_04_ok t0_05_ok t0_06_ok t0_07_ok) (N8.allb_mk t0_10_ok t0_11_ok t0_12_ok t0_13_ok t0_14_ok t0_15_ok t0_16_ok t0_17_ok) (N8.allb_mk t0_20_ok t0_21_ok t0_22_ok t0_23_ok t0_24_ok t0_25_ok t0_26_ok t0_27_ok) (N8.allb_mk t0_30_ok t0_31_ok t0_32_ok t0_33_ok t0_34_ok t0_35_ok t0_36_ok t0_37_ok) (N8.allb_mk t0_40_ok t0_41_ok t0_42_ok t0_43_ok t0_44_ok t0_45_ok t0_46_ok t0_47_ok) (N8.allb_mk t0_50_ok t0_51_ok t0_52_ok t0_53_ok t0_54_ok t0_55_ok t0_56_ok t0_57_ok) (N8.allb_mk t0_60_ok t0_61_ok t0_62_ok t0_63_ok t0_64_ok t0_65_ok t0_66_ok t0_67_ok) (N8.allb_mk t0_70_ok t0_71_ok t0_72_ok t0_73_ok t0_74_ok t0_75_ok t0_76_ok t0_77_ok)) h
set_option maxRecDepth 1000000 in
theorem m1_0 : @rowRun hook0 Tryz.prog laidL 456 key0 ⟨[.int .i64 0, .int .i64 2], .str 2 0, []⟩ = true := by decide +kernel
set_option maxRecDepth 1000000 in
theorem m1_1 : @rowRun hook0 Tryz.prog laidL 456 key0 ⟨[.int .i64 0, .int .i64 3], .str 3 0, []⟩ = true := by decide +kernel
set_option maxRecDepth 1000000 in
theorem m1_2 : @rowRun hook0 Tryz.prog laidL 456 key0 ⟨[.int .i64 1, .int .i64 1], .str 1 1, []⟩ = true := by decide +kernel
set_option maxRecDepth 1000000 in
theorem m1_3 : @rowRun hook0 Tryz.prog laidL 456 key0 ⟨[.int .i64 11, .int .i64 3], .str 3 11, []⟩ = true := by decide +kernel
set_option maxRecDepth 1000000 in
theorem m1_4 : @rowRun hook0 Tryz.prog laidL 456 key0 ⟨[.int .i64 12, .int .i64 1], .str 1 12, []⟩ = true := by decide +kernel
set_option maxRecDepth 1000000 in
theorem m1_5 : @rowRun hook0 Tryz.prog laidL 456 key0 ⟨[.int .i64 12, .int .i64 3], .str 3 12, []⟩ = true := by decide +kernel
set_option maxRecDepth 1000000 in
theorem m1_6 : @rowRun hook0 Tryz.prog laidL 456 key0 ⟨[.int .i64 19, .int .i64 3], .str 3 19, []⟩ = true := by decide +kernel
set_option maxRecDepth 1000000 in
theorem m1_7 : @rowRun hook0 Tryz.prog laidL 456 key0 ⟨[.int .i64 2, .int .i64 1], .str 1 2, []⟩ = true := by decide +kernel
set_option maxRecDepth 1000000 in
theorem m1_8 : @rowRun hook0 Tryz.prog laidL 456 key0 ⟨[.int .i64 21, .int .i64 3], .str 3 21, []⟩ = true := by decide +kernel
set_option maxRecDepth 1000000 in
theorem m1_9 : @rowRun hook0 Tryz.prog laidL 456 key0 ⟨[.int .i64 24, .int .i64 3], .str 3 24, []⟩ = true := by decide +kernel
set_option maxRecDepth 1000000 in
theorem m1_10 : @rowRun hook0 Tryz.prog laidL 456 key0 ⟨[.int .i64 29, .int .i64 3], .str 3 29, []⟩ = true := by decide +kernel
set_option maxRecDepth 1000000 in
theorem m1_11 : @rowRun hook0 Tryz.prog laidL 456 key0 ⟨[.int .i64 3, .int .i64 1], .str 1 3, []⟩ = true := by decide +kernel
set_option maxRecDepth 1000000 in
theorem m1_12 : @rowRun hook0 Tryz.prog laidL 456 key0 ⟨[.int .i64 3, .int .i64 3], .str 3 3, []⟩ = true := by decide +kernel
set_option maxRecDepth 1000000 in
theorem m1_13 : @rowRun hook0 Tryz.prog laidL 456 key0 ⟨[.int .i64 30, .int .i64 3], .str 3 30, []⟩ = true := by decide +kernel
set_option maxRecDepth 1000000 in
theorem m1_14 : @rowRun hook0 Tryz.prog laidL 456 key0 ⟨[.int .i64 33, .int .i64 3], .str 3 33, []⟩ = true := by decide +kernel
set_option maxRecDepth 1000000 in
theorem m1_15 : @rowRun hook0 Tryz.prog laidL 456 key0 ⟨[.int .i64 37, .int .i64 3], .str 3 37, []⟩ = true := by decide +kernel
set_option maxRecDepth 1000000 in
theorem m1_16 : @rowRun hook0 Tryz.prog laidL 456 key0 ⟨[.int .i64 40, .int .i64 3], .str 3 40, []⟩ = true := by decide +kernel
set_option maxRecDepth 1000000 in
theorem m1_17 : @rowRun hook0 Tryz.prog laidL 456 key0 ⟨[.int .i64 41, .int .i64 3], .str 3 41, []⟩ = true := by decide +kernel
set_option maxRecDepth 1000000 in
theorem m1_18 : @rowRun hook0 Tryz.prog laidL 456 key0 ⟨[.int .i64 45, .int .i64 2], .str 2 45, []⟩ = true := by decide +kernel
set_option maxRecDepth 1000000 in
theorem m1_19 : @rowRun hook0 Tryz.prog laidL 456 key0 ⟨[.int .i64 46, .int .i64 2], .str 2 46, []⟩ = true := by decide +kernel
set_option maxRecDepth 1000000 in
theorem m1_20 : @rowRun hook0 Tryz.prog laidL 456 key0 ⟨[.int .i64 47, .int .i64 2], .str 2 47, []⟩ = true := by decide +kernel
set_option maxRecDepth 1000000 in
theorem m1_21 : @rowRun hook0 Tryz.prog laidL 456 key0 ⟨[.int .i64 47, .int .i64 3], .str 3 47, []⟩ = true := by decide +kernel
set_option maxRecDepth 1000000 in
theorem m1_22 : @rowRun hook0 Tryz.prog laidL 456 key0 ⟨[.int .i64 48, .int .i64 2], .str 2 48, []⟩ = true := by decide +kernel
set_option maxRecDepth 1000000 in
theorem m1_23 : @rowRun hook0 Tryz.prog laidL 456 key0 ⟨[.int .i64 49, .int .i64 2], .str 2 49, []⟩ = true := by decide +kernel
set_option maxRecDepth 1000000 in
theorem m1_24 : @rowRun hook0 Tryz.prog laidL 456 key0 ⟨[.int .i64 49, .int .i64 3], .str 3 49, []⟩ = true := by decide +kernel
set_option maxRecDepth 1000000 in
theorem m1_25 : @rowRun hook0 Tryz.prog laidL 456 key0 ⟨[.int .i64 5, .int .i64 1], .str 1 5, []⟩ = true := by decide +kernel
set_option maxRecDepth 1000000 in
theorem m1_26 : @rowRun hook0 Tryz.prog laidL 456 key0 ⟨[.int .i64 50, .int .i64 2], .str 2 50, []⟩ = true := by decide +kernel
set_option maxRecDepth 1000000 in
theorem m1_27 : @rowRun hook0 Tryz.prog laidL 456 key0 ⟨[.int .i64 50, .int .i64 3], .str 3 50, []⟩ = true := by decide +kernel
set_option maxRecDepth 1000000 in
theorem m1_28 : @rowRun hook0 Tryz.prog laidL 456 key0 ⟨[.int .i64 51, .int .i64 2], .str 2 51, []⟩ = true := by decide +kernel
set_option maxRecDepth 1000000 in
theorem m1_29 : @rowRun hook0 Tryz.prog laidL 456 key0 ⟨[.int .i64 52, .int .i64 2], .str 2 52, []⟩ = true := by decide +kernel
set_option maxRecDepth 1000000 in
theorem m1_30 : @rowRun hook0 Tryz.prog laidL 456 key0 ⟨[.int .i64 53, .int .i64 2], .str 2 53, []⟩ = true := by decide +kernel
set_option maxRecDepth 1000000 in
theorem m1_31 : @rowRun hook0 Tryz.prog laidL 456 key0 ⟨[.int .i64 54, .int .i64 2], .str 2 54, []⟩ = true := by decide +kernel
set_option maxRecDepth 1000000 in
theorem m1_32 : @rowRun hook0 Tryz.prog laidL 456 key0 ⟨[.int .i64 55, .int .i64 2], .str 2 55, []⟩ = true := by decide +kernel
set_option maxRecDepth 1000000 in
theorem m1_33 : @rowRun hook0 Tryz.prog laidL 456 key0 ⟨[.int .i64 55, .int .i64 3], .str 3 55, []⟩ = true := by decide +kernel
set_option maxRecDepth 1000000 in
theorem m1_34 : @rowRun hook0 Tryz.prog laidL 456 key0 ⟨[.int .i64 6, .int .i64 1], .str 1 6, []⟩ = true := by decide +kernel
set_option maxRecDepth 1000000 in
theorem m1_35 : @rowRun hook0 Tryz.prog laidL 456 key0 ⟨[.int .i64 63, .int .i64 3], .str 3 63, []⟩ = true := by decide +kernel
set_option maxRecDepth 1000000 in
theorem m1_36 : @rowRun hook0 Tryz.prog laidL 456 key0 ⟨[.int .i64 7, .int .i64 1], .str 1 7, []⟩ = true := by decide +kernel
set_option maxRecDepth 1000000 in
theorem m1_37 : @rowRun hook0 Tryz.prog laidL 456 key0 ⟨[.int .i64 71, .int .i64 3], .str 3 71, []⟩ = true := by decide +kernel
set_option maxRecDepth 1000000 in
theorem m1_38 : @rowRun hook0 Tryz.prog laidL 456 key0 ⟨[.int .i64 79, .int .i64 3], .str 3 79, []⟩ = true := by decide +kernel
set_option maxRecDepth 100000 in
theorem tab1_ok (_ : List AV) : ∀ p ∈ tab1, @rowRun hook0 Tryz.prog laidL 456 key0 p = true := (List.forall_mem_cons.2 ⟨m1_0, (List.forall_mem_cons.2 ⟨m1_1, (List.forall_mem_cons.2 ⟨m1_2, (List.forall_mem_cons.2 ⟨m1_3, (List.forall_mem_cons.2 ⟨m1_4, (List.forall_mem_cons.2 ⟨m1_5, (List.forall_mem_cons.2 ⟨m1_6, (List.forall_mem_cons.2 ⟨m1_7, (List.forall_mem_cons.2 ⟨m1_8, (List.forall_mem_cons.2 ⟨m1_9, (List.forall_mem_cons.2 ⟨m1_10, (List.forall_mem_cons.2 ⟨m1_11, (List.forall_mem_cons.2 ⟨m1_12, (List.forall_mem_cons.2 ⟨m1_13, (List.forall_mem_cons.2 ⟨m1_14, (List.forall_mem_cons.2 ⟨m1_15, (List.forall_mem_cons.2 ⟨m1_16, (List.forall_mem_cons.2 ⟨m1_17, (List.forall_mem_cons.2 ⟨m1_18, (List.forall_mem_cons.2 ⟨m1_19, (List.forall_mem_cons.2 ⟨m1_20, (List.forall_mem_cons.2 ⟨m1_21, (List.forall_mem_cons.2 ⟨m1_22, (List.forall_mem_cons.2 ⟨m1_23, (List.forall_mem_cons.2 ⟨m1_24, (List.forall_mem_cons.2 ⟨m1_25, (List.forall_mem_cons.2 ⟨m1_26, (List.forall_mem_cons.2 ⟨m1_27, (List.forall_mem_cons.2 ⟨m1_28, (List.forall_mem_cons.2 ⟨m1_29, (List.forall_mem_cons.2 ⟨m1_30, (List.forall_mem_cons.2 ⟨m1_31, (List.forall_mem_cons.2 ⟨m1_32, (List.forall_mem_cons.2 ⟨m1_33, (List.forall_mem_cons.2 ⟨m1_34, (List.forall_mem_cons.2 ⟨m1_35, (List.forall_mem_cons.2 ⟨m1_36, (List.forall_mem_cons.2 ⟨m1_37, (List.forall_mem_cons.2 ⟨m1_38, (by intro p h; cases h)⟩)⟩)⟩)⟩)⟩)⟩)⟩)⟩)⟩)⟩)⟩)⟩)⟩)⟩)⟩)⟩)⟩)⟩)⟩)⟩)⟩)⟩)⟩)⟩)⟩)⟩)⟩)⟩)⟩)⟩)⟩)⟩)⟩)⟩)⟩)⟩)⟩)⟩)⟩)
end Go.Proofs.YtbblahphgmkgnaaGreatDoor

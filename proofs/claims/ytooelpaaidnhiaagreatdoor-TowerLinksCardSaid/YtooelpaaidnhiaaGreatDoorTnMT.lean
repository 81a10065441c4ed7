/- Rows of tables of answers: runs by the evaluator, in the kernel. No conditions. -/
import Derived.Test.YtooelpaaidnhiaaGreatDoorTnH
import Derived.Test.YtooelpaaidnhiaaGreatDoorTnMT00
import Derived.Test.YtooelpaaidnhiaaGreatDoorTnMT04
namespace Go.Proofs.YtooelpaaidnhiaaGreatDoor
open Go.VM
theorem tab0_ok (a : List AV) (r : Row) (h : r ∈ bkt tab0 a) : @rowRun hook0 Tryz.prog laidL 303 key0 r = true :=
  bkt_mem (p := @rowRun hook0 Tryz.prog laidL 303 key0) (t := tab0) (N8.allb_mk (N8.allb_mk t0_00_ok t0_01_ok t0_02_ok t0_03_ok t0_04_ok t0_05_ok t0_06_ok t0_07_ok) (N8.allb_mk t0_10_ok t0_11_ok t0_12_ok t0_13_ok t0_14_ok t0_15_ok t0_16_ok t0_17_ok) (N8.allb_mk t0_20_ok t0_21_ok t0_22_ok t0_23_ok t0_24_ok t0_25_ok t0_26_ok t0_27_ok) (N8.allb_mk t0_30_ok t0_31_ok t0_32_ok t0_33_ok t0_34_ok t0_35_ok t0_36_ok t0_37_ok) (N8.allb_mk t0_40_ok t0_41_ok t0_42_ok t0_43_ok t0_44_ok t0_45_ok t0_46_ok t0_47_ok) (N8.allb_mk t0_50_ok t0_51_ok t0_52_ok t0_53_ok t0_54_ok t0_55_ok t0_56_ok t0_57_ok) (N8.allb_mk t0_60_ok t0_61_ok t0_62_ok t0_63_ok t0_64_ok t0_65_ok t0_66_ok t0_67_ok) (N8.allb_mk t0_70_ok t0_71_ok t0_72_ok t0_73_ok t0_74_ok t0_75_ok t0_76_ok t0_77_ok)) h
set_option maxRecDepth 1000000 in
theorem m1_0 : @rowRun hook0 Tryz.prog laidL 458 key0 ⟨[.int .i64 0, .int .i64 2], .str 2 0, []⟩ = true := by decide +kernel
set_option maxRecDepth 1000000 in
theorem m1_1 : @rowRun hook0 Tryz.prog laidL 458 key0 ⟨[.int .i64 0, .int .i64 3], .str 3 0, []⟩ = true := by decide +kernel
set_option maxRecDepth 1000000 in
theorem m1_2 : @rowRun hook0 Tryz.prog laidL 458 key0 ⟨[.int .i64 1, .int .i64 1], .str 1 1, []⟩ = true := by decide +kernel
set_option maxRecDepth 1000000 in
theorem m1_3 : @rowRun hook0 Tryz.prog laidL 458 key0 ⟨[.int .i64 45, .int .i64 2], .str 2 45, []⟩ = true := by decide +kernel
set_option maxRecDepth 1000000 in
theorem m1_4 : @rowRun hook0 Tryz.prog laidL 458 key0 ⟨[.int .i64 5, .int .i64 1], .str 1 5, []⟩ = true := by decide +kernel
set_option maxRecDepth 1000000 in
theorem m1_5 : @rowRun hook0 Tryz.prog laidL 458 key0 ⟨[.int .i64 53, .int .i64 2], .str 2 53, []⟩ = true := by decide +kernel
set_option maxRecDepth 1000000 in
theorem m1_6 : @rowRun hook0 Tryz.prog laidL 458 key0 ⟨[.int .i64 54, .int .i64 2], .str 2 54, []⟩ = true := by decide +kernel
set_option maxRecDepth 1000000 in
theorem m1_7 : @rowRun hook0 Tryz.prog laidL 458 key0 ⟨[.int .i64 6, .int .i64 1], .str 1 6, []⟩ = true := by decide +kernel
set_option maxRecDepth 100000 in
theorem tab1_ok (_ : List AV) : ∀ p ∈ tab1, @rowRun hook0 Tryz.prog laidL 458 key0 p = true := (List.forall_mem_cons.2 ⟨m1_0, (List.forall_mem_cons.2 ⟨m1_1, (List.forall_mem_cons.2 ⟨m1_2, (List.forall_mem_cons.2 ⟨m1_3, (List.forall_mem_cons.2 ⟨m1_4, (List.forall_mem_cons.2 ⟨m1_5, (List.forall_mem_cons.2 ⟨m1_6, (List.forall_mem_cons.2 ⟨m1_7, (by intro p h; cases h)⟩)⟩)⟩)⟩)⟩)⟩)⟩)⟩)
end Go.Proofs.YtooelpaaidnhiaaGreatDoor

/- ModelCreates answers true, and nothing that was there is turned: the contract, out of the evaluator's runs, and its lift to the row's form. Conditions: those of the given row (the listed variables read as listed). -/
import Derived.Test.YtpdgopgcodmilaaGreatDoorCrRA
import Derived.Test.YtpdgopgcodmilaaGreatDoorCrMT
import Derived.Test.YtpdgopgcodmilaaGreatDoorCrMX0
import Derived.Test.YtpdgopgcodmilaaGreatDoorCrMX1
import Derived.Test.YtpdgopgcodmilaaGreatDoorCrMX2
import Derived.Test.YtpdgopgcodmilaaGreatDoorCrMX3
import Derived.Test.YtpdgopgcodmilaaGreatDoorCrMX4
import Derived.Test.YtpdgopgcodmilaaGreatDoorCrMX5
import Derived.Test.YtpdgopgcodmilaaGreatDoorCrMX6
import Derived.Test.YtpdgopgcodmilaaGreatDoorCrMX7
import Derived.Test.YtpdgopgcodmilaaGreatDoorCrMX8
import Derived.Test.YtpdgopgcodmilaaGreatDoorCrMX9
import Derived.Test.YtpdgopgcodmilaaGreatDoorCrMX10
import Derived.Test.YtpdgopgcodmilaaGreatDoorCrMX11
import Derived.Test.YtpdgopgcodmilaaGreatDoorCrFX0
import Derived.Test.YtpdgopgcodmilaaGreatDoorCrS
import Derived.Test.YtpdgopgcodmilaaGreatDoorCrRM0
import Derived.Test.YtpdgopgcodmilaaGreatDoorCrRM1
import Derived.Test.YtpdgopgcodmilaaGreatDoorCrRM2
import Derived.Test.YtpdgopgcodmilaaGreatDoorCrRM3
import Derived.Test.YtpdgopgcodmilaaGreatDoorCrRM4
import Derived.Test.YtpdgopgcodmilaaGreatDoorCrRM5
import Derived.Test.YtpdgopgcodmilaaGreatDoorCrRM6
import Derived.Test.YtpdgopgcodmilaaGreatDoorCrRM7
import Derived.Test.YtpdgopgcodmilaaGreatDoorCrRM8
import Derived.Test.YtpdgopgcodmilaaGreatDoorRows
import Derived.SevenTiedAt
import Derived.Stop.Joined
import Derived.ChangeSlices
import Derived.WideKeyArgs
import Derived.Carry
namespace Go.Proofs.YtpdgopgcodmilaaGreatDoor
open Go.ChangeShapes Go.WideShapes Go.ChangeAt Go.RowKit Go.VM
theorem mixed : Tryz.prog.follows .mixedOrders = true := by kernel_rfl
theorem g64 : Tryz.prog.globals.size ≤ 64 := by decide +kernel
theorem row320 : Extern.findNext Tryz.f320 = none ∧ Extern.find Tryz.f320 = some Extern.BytealgIndexByte.indexByte := ⟨by kernel_rfl, by kernel_rfl⟩
theorem vm320 : vmRow 4 Tryz.f320 = some Extern.BytealgIndexByte.indexByte := rfl
theorem row333 : Extern.findNext Tryz.f333 = none ∧ Extern.find Tryz.f333 = some (Extern.BytealgMakeNoZero.makeNoZero Tryz.f333.params Tryz.f333.resultTypes) := ⟨by kernel_rfl, by kernel_rfl⟩
theorem vm333 : vmRow 5 Tryz.f333 = some (Extern.BytealgMakeNoZero.makeNoZero Tryz.f333.params Tryz.f333.resultTypes) := rfl
theorem row366 : Extern.findNext Tryz.f366 = none ∧ Extern.find Tryz.f366 = some Extern.MathFloatBits.float64bits := ⟨by kernel_rfl, by kernel_rfl⟩
theorem vm366 : vmRow 1 Tryz.f366 = some Extern.MathFloatBits.float64bits := rfl
theorem row340 : Extern.findNext Tryz.f340 = none ∧ Extern.find Tryz.f340 = some Extern.MathFloatBits.float64frombits := ⟨by kernel_rfl, by kernel_rfl⟩
theorem vm340 : vmRow 2 Tryz.f340 = some Extern.MathFloatBits.float64frombits := rfl
theorem row265 : Extern.findNext Tryz.f265 = none ∧ Extern.find Tryz.f265 = some Extern.AbiNoEscape.same := ⟨by kernel_rfl, by kernel_rfl⟩
theorem vm265 : vmRow 3 Tryz.f265 = some Extern.AbiNoEscape.same := rfl
theorem row384 : Extern.findNext Tryz.f384 = none ∧ Extern.find Tryz.f384 = some (Extern.MathFloor.toIntegral "math.archTrunc" .zero) := ⟨by kernel_rfl, by kernel_rfl⟩
theorem vm384 : vmRow 6 Tryz.f384 = some (Extern.MathFloor.toIntegral "math.archTrunc" .zero) := rfl
theorem rows_ok (H : Hook) (hH : H.exts = lookN extL) : @RowsOk H Tryz.prog := by
  refine @rowsOk_of H _ extL (fun f => by show H.exts f = _; rw [hH]) fun f k hm fd hp impl hv => ?_
  simp only [extL, List.mem_cons, List.not_mem_nil, or_false, Prod.mk.injEq] at hm
  rcases hm with ⟨rfl, rfl⟩ | ⟨rfl, rfl⟩ | ⟨rfl, rfl⟩ | ⟨rfl, rfl⟩ | ⟨rfl, rfl⟩ | ⟨rfl, rfl⟩
  · rw [Tryz.func320] at hp; cases hp; rw [vm320] at hv; cases hv; exact row320
  · rw [Tryz.func333] at hp; cases hp; rw [vm333] at hv; cases hv; exact row333
  · rw [Tryz.func366] at hp; cases hp; rw [vm366] at hv; cases hv; exact row366
  · rw [Tryz.func340] at hp; cases hp; rw [vm340] at hv; cases hv; exact row340
  · rw [Tryz.func265] at hp; cases hp; rw [vm265] at hv; cases hv; exact row265
  · rw [Tryz.func384] at hp; cases hp; rw [vm384] at hv; cases hv; exact row384
theorem body4 : ∃ c, bodyOf Tryz.prog 4 = some c := body_of Tryz.func4 (by kernel_rfl) (by kernel_rfl)
theorem body5 : ∃ c, bodyOf Tryz.prog 5 = some c := body_of Tryz.func5 (by kernel_rfl) (by kernel_rfl)
theorem body10 : ∃ c, bodyOf Tryz.prog 10 = some c := body_of Tryz.func10 (by kernel_rfl) (by kernel_rfl)
theorem body106 : ∃ c, bodyOf Tryz.prog 106 = some c := body_of Tryz.func106 (by kernel_rfl) (by kernel_rfl)
theorem body44 : ∃ c, bodyOf Tryz.prog 44 = some c := body_of Tryz.func44 (by kernel_rfl) (by kernel_rfl)
theorem body289 : ∃ c, bodyOf Tryz.prog 289 = some c := body_of Tryz.func289 (by kernel_rfl) (by kernel_rfl)
theorem body262 : ∃ c, bodyOf Tryz.prog 262 = some c := body_of Tryz.func262 (by kernel_rfl) (by kernel_rfl)
theorem body308 : ∃ c, bodyOf Tryz.prog 308 = some c := body_of Tryz.func308 (by kernel_rfl) (by kernel_rfl)
theorem body186 : ∃ c, bodyOf Tryz.prog 186 = some c := body_of Tryz.func186 (by kernel_rfl) (by kernel_rfl)
theorem gm_lt : 0 < Tryz.prog.globals.size := by decide +kernel
section
variable {b : Base} {W : World} {m : Int}
theorem sat_ix [Hook] (hm : b.w.cell? ⟨0, 0, none⟩ = some (.int .i64 m)) (hk : b.Keeps Tryz.prog laidL tot) : Sat Tryz.prog b 262 1 := fun s sub w _ ho hl => Any.strings_Index { Tryz.laysM143 with } s sub m w hl (cell_keeps hk hm gm_lt ho)
theorem sat_ixl [Hook] (hm : b.w.cell? ⟨0, 0, none⟩ = some (.int .i64 m)) (hk : b.Keeps Tryz.prog laidL tot) : Sat Tryz.prog b 308 1 := fun s sub w _ ho hl => Any.stringslite_Index { Tryz.laysM219 with } s sub m w hl (cell_keeps hk hm gm_lt ho)
theorem sat_co [Hook] (hm : b.w.cell? ⟨0, 0, none⟩ = some (.int .i64 m)) (hk : b.Keeps Tryz.prog laidL tot) : Sat Tryz.prog b 186 2 := fun s sub w _ ho hl => Any.strings_Contains { Tryz.laysM144 with } s sub m w hl (cell_keeps hk hm gm_lt ho)
theorem sum0 (hm : b.w.cell? ⟨0, 0, none⟩ = some (.int .i64 m)) (hk : b.Keeps Tryz.prog laidL tot) : @SumOk Tryz.prog hook0 b :=
  @sumOk_of hook0 _ _ (@sums_of hook0 _ b sumL rfl (List.forall_mem_cons.2 ⟨body262, (List.forall_mem_cons.2 ⟨body308, (List.forall_mem_cons.2 ⟨body186, (by intro q h; cases h)⟩)⟩)⟩) (List.forall_mem_cons.2 ⟨@sat_ix b m hook0 hm hk, (List.forall_mem_cons.2 ⟨@sat_ixl b m hook0 hm hk, (List.forall_mem_cons.2 ⟨@sat_co b m hook0 hm hk, (by intro q h; cases h)⟩)⟩)⟩))
theorem sat_m0a (hm : b.w.cell? ⟨0, 0, none⟩ = some (.int .i64 m)) (hk : b.Keeps Tryz.prog laidL tot) : @Sat hookA Tryz.prog b 106 4 := ⟨PrimOk.none (k := 0), fun a r hr => ⟨@row_ok hook0 _ laidL 106 key0 r (tab0_ok a r hr), fun _ _ _ hrel hs ho => @memo_of hook0 _ (rows_ok hook0 rfl) mixed g64 laidL tot 106 r key0 _ (sum0 (b := Base.at _ _) (cell_keeps hk hm gm_lt ho) (.of_at (hk.world hs ho))) (hk.world hs ho) _ _ hrel (tab0_ok a r hr)⟩⟩
theorem sat_m0b (hm : b.w.cell? ⟨0, 0, none⟩ = some (.int .i64 m)) (hk : b.Keeps Tryz.prog laidL tot) : @Sat hookM Tryz.prog b 106 4 := ⟨PrimOk.none (k := 0), fun a r hr => ⟨@row_ok hook0 _ laidL 106 key0 r (tab0_ok a r hr), fun _ _ _ hrel hs ho => @memo_of hook0 _ (rows_ok hook0 rfl) mixed g64 laidL tot 106 r key0 _ (sum0 (b := Base.at _ _) (cell_keeps hk hm gm_lt ho) (.of_at (hk.world hs ho))) (hk.world hs ho) _ _ hrel (tab0_ok a r hr)⟩⟩
theorem sumA (hm : b.w.cell? ⟨0, 0, none⟩ = some (.int .i64 m)) (hk : b.Keeps Tryz.prog laidL tot) : @SumOk Tryz.prog hookA b :=
  @sumOk_of hookA _ _ (@sums_of hookA _ b sumLA rfl (List.forall_mem_cons.2 ⟨body106, (List.forall_mem_cons.2 ⟨body44, (List.forall_mem_cons.2 ⟨body289, (List.forall_mem_cons.2 ⟨body262, (List.forall_mem_cons.2 ⟨body308, (List.forall_mem_cons.2 ⟨body186, (by intro q h; cases h)⟩)⟩)⟩)⟩)⟩)⟩) (List.forall_mem_cons.2 ⟨sat_m0a hm hk, (List.forall_mem_cons.2 ⟨(⟨@sortedStr_ok Tryz.prog b 44 9 isItS (sortedAtS b), fun _ r hr => by cases hr⟩ : @Sat hookA Tryz.prog b 44 6), (List.forall_mem_cons.2 ⟨(⟨@repeatP_ok Tryz.prog b 289 (repeat_at b), fun _ r hr => by cases hr⟩ : @Sat hookA Tryz.prog b 289 7), (List.forall_mem_cons.2 ⟨@sat_ix b m hookA hm hk, (List.forall_mem_cons.2 ⟨@sat_ixl b m hookA hm hk, (List.forall_mem_cons.2 ⟨@sat_co b m hookA hm hk, (by intro q h; cases h)⟩)⟩)⟩)⟩)⟩)⟩))
/-- 'awake' answers true, in whatever world -/
theorem awake_ok (hm : W.cell? ⟨0, 0, none⟩ = some (.int .i64 m)) (hL : LaidOk Tryz.prog laidL tot W) : Calls Tryz.prog 4 #[] W fun e w' => e = .returned (.bool true) ∧ Grew W w' :=
  @truth_of hookA _ (rows_ok hookA rfl) mixed g64 laidL tot 4 [] [] W (sumA (b := Base.at W _) hm (.of_at hL)) hL .nil _ awake_run
theorem sat_aw [Hook] (hm : b.w.cell? ⟨0, 0, none⟩ = some (.int .i64 m)) (hk : b.Keeps Tryz.prog laidL tot) : Sat Tryz.prog b 4 3 := fun _ hs ho => awake_ok (cell_keeps hk hm gm_lt ho) (hk.world hs ho)
theorem faces_ok : ∀ r ∈ faceRows, @rowRun hookA Tryz.prog laidL 5 key4 r = true := (List.forall_mem_cons.2 ⟨face_run0, (by intro p h; cases h)⟩)
theorem sat_face (hm : b.w.cell? ⟨0, 0, none⟩ = some (.int .i64 m)) (hk : b.Keeps Tryz.prog laidL tot) : @Sat hookM Tryz.prog b 5 5 := by
  refine ⟨PrimOk.none (k := 1), fun _ r hr => ?_⟩
  have hr : r ∈ faceRows := hr
  exact ⟨@row_ok hookA _ laidL 5 key4 r (faces_ok r hr), fun _ _ _ hrel hs ho => @memo_of hookA _ (rows_ok hookA rfl) mixed g64 laidL tot 5 r key4 _ (sumA (b := Base.at _ _) (cell_keeps hk hm gm_lt ho) (.of_at (hk.world hs ho))) (hk.world hs ho) _ _ hrel (faces_ok r hr)⟩
set_option maxRecDepth 100000 in
theorem mrows_ok : ∀ r ∈ mrows, @RowRuns hookA Tryz.prog laidL 10 keyT r := (List.forall_mem_cons.2 ⟨⟨mr0_ok, 500000, List.all_eq_true.1 mr0_run⟩, (List.forall_mem_cons.2 ⟨⟨mr1_ok, 500000, List.all_eq_true.1 mr1_run⟩, (List.forall_mem_cons.2 ⟨⟨mr2_ok, 500000, List.all_eq_true.1 mr2_run⟩, (List.forall_mem_cons.2 ⟨⟨mr3_ok, 500000, List.all_eq_true.1 mr3_run⟩, (List.forall_mem_cons.2 ⟨⟨mr4_ok, 500000, List.all_eq_true.1 mr4_run⟩, (List.forall_mem_cons.2 ⟨⟨mr5_ok, 500000, List.all_eq_true.1 mr5_run⟩, (List.forall_mem_cons.2 ⟨⟨mr6_ok, 500000, List.all_eq_true.1 mr6_run⟩, (List.forall_mem_cons.2 ⟨⟨mr7_ok, 500000, List.all_eq_true.1 mr7_run⟩, (List.forall_mem_cons.2 ⟨⟨mr8_ok, 500000, List.all_eq_true.1 mr8_run⟩, (List.forall_mem_cons.2 ⟨⟨mr9_ok, 500000, List.all_eq_true.1 mr9_run⟩, (List.forall_mem_cons.2 ⟨⟨mr10_ok, 500000, List.all_eq_true.1 mr10_run⟩, (List.forall_mem_cons.2 ⟨⟨mr11_ok, 500000, List.all_eq_true.1 mr11_run⟩, (List.forall_mem_cons.2 ⟨⟨mr12_ok, 500000, List.all_eq_true.1 mr12_run⟩, (List.forall_mem_cons.2 ⟨⟨mr13_ok, 500000, List.all_eq_true.1 mr13_run⟩, (List.forall_mem_cons.2 ⟨⟨mr14_ok, 500000, List.all_eq_true.1 mr14_run⟩, (List.forall_mem_cons.2 ⟨⟨mr15_ok, 500000, List.all_eq_true.1 mr15_run⟩, (List.forall_mem_cons.2 ⟨⟨mr16_ok, 500000, List.all_eq_true.1 mr16_run⟩, (List.forall_mem_cons.2 ⟨⟨mr17_ok, 500000, List.all_eq_true.1 mr17_run⟩, (List.forall_mem_cons.2 ⟨⟨mr18_ok, 500000, List.all_eq_true.1 mr18_run⟩, (List.forall_mem_cons.2 ⟨⟨mr19_ok, 500000, List.all_eq_true.1 mr19_run⟩, (List.forall_mem_cons.2 ⟨⟨mr20_ok, 500000, List.all_eq_true.1 mr20_run⟩, (List.forall_mem_cons.2 ⟨⟨mr21_ok, 500000, List.all_eq_true.1 mr21_run⟩, (List.forall_mem_cons.2 ⟨⟨mr22_ok, 500000, List.all_eq_true.1 mr22_run⟩, (List.forall_mem_cons.2 ⟨⟨mr23_ok, 500000, List.all_eq_true.1 mr23_run⟩, (List.forall_mem_cons.2 ⟨⟨mr24_ok, 500000, List.all_eq_true.1 mr24_run⟩, (List.forall_mem_cons.2 ⟨⟨mr25_ok, 500000, List.all_eq_true.1 mr25_run⟩, (List.forall_mem_cons.2 ⟨⟨mr26_ok, 500000, List.all_eq_true.1 mr26_run⟩, (List.forall_mem_cons.2 ⟨⟨mr27_ok, 500000, List.all_eq_true.1 mr27_run⟩, (List.forall_mem_cons.2 ⟨⟨mr28_ok, 500000, List.all_eq_true.1 mr28_run⟩, (List.forall_mem_cons.2 ⟨⟨mr29_ok, 500000, List.all_eq_true.1 mr29_run⟩, (List.forall_mem_cons.2 ⟨⟨mr30_ok, 500000, List.all_eq_true.1 mr30_run⟩, (List.forall_mem_cons.2 ⟨⟨mr31_ok, 500000, List.all_eq_true.1 mr31_run⟩, (List.forall_mem_cons.2 ⟨⟨mr32_ok, 500000, List.all_eq_true.1 mr32_run⟩, (List.forall_mem_cons.2 ⟨⟨mr33_ok, 500000, List.all_eq_true.1 mr33_run⟩, (List.forall_mem_cons.2 ⟨⟨mr34_ok, 500000, List.all_eq_true.1 mr34_run⟩, (List.forall_mem_cons.2 ⟨⟨mr35_ok, 500000, List.all_eq_true.1 mr35_run⟩, (List.forall_mem_cons.2 ⟨⟨mr36_ok, 500000, List.all_eq_true.1 mr36_run⟩, (List.forall_mem_cons.2 ⟨⟨mr37_ok, 500000, List.all_eq_true.1 mr37_run⟩, (List.forall_mem_cons.2 ⟨⟨mr38_ok, 500000, List.all_eq_true.1 mr38_run⟩, (List.forall_mem_cons.2 ⟨⟨mr39_ok, 500000, List.all_eq_true.1 mr39_run⟩, (List.forall_mem_cons.2 ⟨⟨mr40_ok, 500000, List.all_eq_true.1 mr40_run⟩, (List.forall_mem_cons.2 ⟨⟨mr41_ok, 500000, List.all_eq_true.1 mr41_run⟩, (List.forall_mem_cons.2 ⟨⟨mr42_ok, 500000, List.all_eq_true.1 mr42_run⟩, (List.forall_mem_cons.2 ⟨⟨mr43_ok, 500000, List.all_eq_true.1 mr43_run⟩, (List.forall_mem_cons.2 ⟨⟨mr44_ok, 500000, List.all_eq_true.1 mr44_run⟩, (List.forall_mem_cons.2 ⟨⟨mr45_ok, 500000, List.all_eq_true.1 mr45_run⟩, (List.forall_mem_cons.2 ⟨⟨mr46_ok, 500000, List.all_eq_true.1 mr46_run⟩, (List.forall_mem_cons.2 ⟨⟨mr47_ok, 500000, List.all_eq_true.1 mr47_run⟩, (List.forall_mem_cons.2 ⟨⟨mr48_ok, 500000, List.all_eq_true.1 mr48_run⟩, (List.forall_mem_cons.2 ⟨⟨mr49_ok, 500000, List.all_eq_true.1 mr49_run⟩, (List.forall_mem_cons.2 ⟨⟨mr50_ok, 500000, List.all_eq_true.1 mr50_run⟩, (List.forall_mem_cons.2 ⟨⟨mr51_ok, 500000, List.all_eq_true.1 mr51_run⟩, (List.forall_mem_cons.2 ⟨⟨mr52_ok, 500000, List.all_eq_true.1 mr52_run⟩, (List.forall_mem_cons.2 ⟨⟨mr53_ok, 500000, List.all_eq_true.1 mr53_run⟩, (List.forall_mem_cons.2 ⟨⟨mr54_ok, 500000, List.all_eq_true.1 mr54_run⟩, (List.forall_mem_cons.2 ⟨⟨mr55_ok, 500000, List.all_eq_true.1 mr55_run⟩, (List.forall_mem_cons.2 ⟨⟨mr56_ok, 500000, List.all_eq_true.1 mr56_run⟩, (List.forall_mem_cons.2 ⟨⟨mr57_ok, 500000, List.all_eq_true.1 mr57_run⟩, (List.forall_mem_cons.2 ⟨⟨mr58_ok, 500000, List.all_eq_true.1 mr58_run⟩, (List.forall_mem_cons.2 ⟨⟨mr59_ok, 500000, List.all_eq_true.1 mr59_run⟩, (List.forall_mem_cons.2 ⟨⟨mr60_ok, 500000, List.all_eq_true.1 mr60_run⟩, (List.forall_mem_cons.2 ⟨⟨mr61_ok, 500000, List.all_eq_true.1 mr61_run⟩, (List.forall_mem_cons.2 ⟨⟨mr62_ok, 500000, List.all_eq_true.1 mr62_run⟩, (List.forall_mem_cons.2 ⟨⟨mr63_ok, 500000, List.all_eq_true.1 mr63_run⟩, (List.forall_mem_cons.2 ⟨⟨mr64_ok, 500000, List.all_eq_true.1 mr64_run⟩, (List.forall_mem_cons.2 ⟨⟨mr65_ok, 500000, List.all_eq_true.1 mr65_run⟩, (List.forall_mem_cons.2 ⟨⟨mr66_ok, 500000, List.all_eq_true.1 mr66_run⟩, (List.forall_mem_cons.2 ⟨⟨mr67_ok, 500000, List.all_eq_true.1 mr67_run⟩, (List.forall_mem_cons.2 ⟨⟨mr68_ok, 500000, List.all_eq_true.1 mr68_run⟩, (List.forall_mem_cons.2 ⟨⟨mr69_ok, 500000, List.all_eq_true.1 mr69_run⟩, (List.forall_mem_cons.2 ⟨⟨mr70_ok, 500000, List.all_eq_true.1 mr70_run⟩, (List.forall_mem_cons.2 ⟨⟨mr71_ok, 500000, List.all_eq_true.1 mr71_run⟩, (List.forall_mem_cons.2 ⟨⟨mr72_ok, 500000, List.all_eq_true.1 mr72_run⟩, (List.forall_mem_cons.2 ⟨⟨mr73_ok, 500000, List.all_eq_true.1 mr73_run⟩, (List.forall_mem_cons.2 ⟨⟨mr74_ok, 500000, List.all_eq_true.1 mr74_run⟩, (List.forall_mem_cons.2 ⟨⟨mr75_ok, 500000, List.all_eq_true.1 mr75_run⟩, (List.forall_mem_cons.2 ⟨⟨mr76_ok, 500000, List.all_eq_true.1 mr76_run⟩, (List.forall_mem_cons.2 ⟨⟨mr77_ok, 500000, List.all_eq_true.1 mr77_run⟩, (List.forall_mem_cons.2 ⟨⟨mr78_ok, 500000, List.all_eq_true.1 mr78_run⟩, (List.forall_mem_cons.2 ⟨⟨mr79_ok, 500000, List.all_eq_true.1 mr79_run⟩, (List.forall_mem_cons.2 ⟨⟨mr80_ok, 500000, List.all_eq_true.1 mr80_run⟩, (List.forall_mem_cons.2 ⟨⟨mr81_ok, 500000, List.all_eq_true.1 mr81_run⟩, (List.forall_mem_cons.2 ⟨⟨mr82_ok, 500000, List.all_eq_true.1 mr82_run⟩, (List.forall_mem_cons.2 ⟨⟨mr83_ok, 500000, List.all_eq_true.1 mr83_run⟩, (List.forall_mem_cons.2 ⟨⟨mr84_ok, 500000, List.all_eq_true.1 mr84_run⟩, (List.forall_mem_cons.2 ⟨⟨mr85_ok, 500000, List.all_eq_true.1 mr85_run⟩, (List.forall_mem_cons.2 ⟨⟨mr86_ok, 500000, List.all_eq_true.1 mr86_run⟩, (List.forall_mem_cons.2 ⟨⟨mr87_ok, 500000, List.all_eq_true.1 mr87_run⟩, (List.forall_mem_cons.2 ⟨⟨mr88_ok, 500000, List.all_eq_true.1 mr88_run⟩, (List.forall_mem_cons.2 ⟨⟨mr89_ok, 500000, List.all_eq_true.1 mr89_run⟩, (List.forall_mem_cons.2 ⟨⟨mr90_ok, 500000, List.all_eq_true.1 mr90_run⟩, (List.forall_mem_cons.2 ⟨⟨mr91_ok, 500000, List.all_eq_true.1 mr91_run⟩, (List.forall_mem_cons.2 ⟨⟨mr92_ok, 500000, List.all_eq_true.1 mr92_run⟩, (List.forall_mem_cons.2 ⟨⟨mr93_ok, 500000, List.all_eq_true.1 mr93_run⟩, (List.forall_mem_cons.2 ⟨⟨mr94_ok, 500000, List.all_eq_true.1 mr94_run⟩, (List.forall_mem_cons.2 ⟨⟨mr95_ok, 500000, List.all_eq_true.1 mr95_run⟩, (List.forall_mem_cons.2 ⟨⟨mr96_ok, 500000, List.all_eq_true.1 mr96_run⟩, (List.forall_mem_cons.2 ⟨⟨mr97_ok, 500000, List.all_eq_true.1 mr97_run⟩, (List.forall_mem_cons.2 ⟨⟨mr98_ok, 500000, List.all_eq_true.1 mr98_run⟩, (List.forall_mem_cons.2 ⟨⟨mr99_ok, 500000, List.all_eq_true.1 mr99_run⟩, (List.forall_mem_cons.2 ⟨⟨mr100_ok, 500000, List.all_eq_true.1 mr100_run⟩, (by intro p h; cases h)⟩)⟩)⟩)⟩)⟩)⟩)⟩)⟩)⟩)⟩)⟩)⟩)⟩)⟩)⟩)⟩)⟩)⟩)⟩)⟩)⟩)⟩)⟩)⟩)⟩)⟩)⟩)⟩)⟩)⟩)⟩)⟩)⟩)⟩)⟩)⟩)⟩)⟩)⟩)⟩)⟩)⟩)⟩)⟩)⟩)⟩)⟩)⟩)⟩)⟩)⟩)⟩)⟩)⟩)⟩)⟩)⟩)⟩)⟩)⟩)⟩)⟩)⟩)⟩)⟩)⟩)⟩)⟩)⟩)⟩)⟩)⟩)⟩)⟩)⟩)⟩)⟩)⟩)⟩)⟩)⟩)⟩)⟩)⟩)⟩)⟩)⟩)⟩)⟩)⟩)⟩)⟩)⟩)⟩)⟩)⟩)⟩)⟩)⟩)⟩)⟩)
theorem sat_rows (hm : b.w.cell? ⟨0, 0, none⟩ = some (.int .i64 m)) (hk : b.Keeps Tryz.prog laidL tot) : @Sat hookM Tryz.prog b 10 8 := ⟨PrimOk.ofK (@mprim_ok hookA Tryz.prog (rows_ok hookA rfl) mixed g64 laidL tot 10 keyT mrows mrows_ok b hk (fun b' hk' hc => sumA (b := b') (hc 0 _ gm_lt hm) hk')), fun _ r hr => by cases hr⟩
theorem sumM (hm : b.w.cell? ⟨0, 0, none⟩ = some (.int .i64 m)) (hk : b.Keeps Tryz.prog laidL tot) : @SumOk Tryz.prog hookM b :=
  @sumOk_of hookM _ _ (@sums_of hookM _ b sumLM rfl (List.forall_mem_cons.2 ⟨body4, (List.forall_mem_cons.2 ⟨body5, (List.forall_mem_cons.2 ⟨body10, (List.forall_mem_cons.2 ⟨body106, (List.forall_mem_cons.2 ⟨body44, (List.forall_mem_cons.2 ⟨body289, (List.forall_mem_cons.2 ⟨body262, (List.forall_mem_cons.2 ⟨body308, (List.forall_mem_cons.2 ⟨body186, (by intro q h; cases h)⟩)⟩)⟩)⟩)⟩)⟩)⟩)⟩)⟩) (List.forall_mem_cons.2 ⟨@sat_aw b m hookM hm hk, (List.forall_mem_cons.2 ⟨sat_face hm hk, (List.forall_mem_cons.2 ⟨sat_rows hm hk, (List.forall_mem_cons.2 ⟨sat_m0b hm hk, (List.forall_mem_cons.2 ⟨(⟨@sortedStr_ok Tryz.prog b 44 9 isItS (sortedAtS b), fun _ r hr => by cases hr⟩ : @Sat hookM Tryz.prog b 44 6), (List.forall_mem_cons.2 ⟨(⟨@repeatP_ok Tryz.prog b 289 (repeat_at b), fun _ r hr => by cases hr⟩ : @Sat hookM Tryz.prog b 289 7), (List.forall_mem_cons.2 ⟨@sat_ix b m hookM hm hk, (List.forall_mem_cons.2 ⟨@sat_ixl b m hookM hm hk, (List.forall_mem_cons.2 ⟨@sat_co b m hookM hm hk, (by intro q h; cases h)⟩)⟩)⟩)⟩)⟩)⟩)⟩)⟩)⟩))
/-- what is known of the argument -/
inductive ArgOk (W : World) : Value → Prop where
  | nil : ArgOk W (.slice none 0 0)
  | row (a : Addr) (len cap : Nat) (zs : List Int) (hl : len ≤ cap) (hm : cap ≤ maxLen) (hz : zs.length = cap) (hcell : ∀ i, i < zs.length → W.cell? (a.add i) = some (.int .i64 (zs.getD i 0))) : ArgOk W (.slice (some a) len cap)
theorem hP : TypesOk Tryz.prog := ⟨⟩
theorem spaceLen : spaceZ.length = 256 := by kernel_rfl
theorem map_at {l : List Int} {i : Nat} (h : i < l.length) : (l.map fun z => AV.int .u8 z)[i]? = some (.int .u8 (l[i]'h)) := by simp [h]
theorem cell_at0 {a : Addr} {v : Value} (h : W.cell? (a.add 0) = some v) : ∃ B off, a = ⟨B, off, none⟩ := by
  obtain ⟨B, off, spot⟩ := a
  cases spot with
  | some sp =>
    exfalso
    unfold World.cell? Addr.add at h
    split at h <;> simp_all
  | none => exact ⟨B, off, rfl⟩
theorem cell_in {B off i : Nat} {v : Value} (h : W.cell? ((⟨B, off, none⟩ : Addr).add i) = some v) : ∃ C e q, W.heap[B]? = some (.cells C e q) ∧ C[off + i]? = some v := by
  rw [add_plain] at h
  unfold World.cell? at h
  split at h
  · rename_i C e q hO
    exact ⟨C, e, q, hO, by simpa using h⟩
  · cases h
theorem cells_rel {ρ : Rho} {C : Array Value} : ∀ (m : Nat) (off : Nat), (∀ i, i < m → ∃ n, C[off + i]? = some (.int .i64 n)) → RelL ρ (cellsOf m) ((C.toList.drop off).take m)
  | 0, off, _ => by simpa [cellsOf, rep] using RelL.nil
  | m + 1, off, h => by
    obtain ⟨n, hn⟩ := h 0 (by omega)
    have ih := cells_rel (ρ := ρ) (C := C) m (off + 1) fun i hi => by
      have := h (i + 1) (by omega)
      rwa [show off + (i + 1) = off + 1 + i by omega] at this
    have hn : C.toList[off]? = some (.int .i64 n) := by rw [Array.getElem?_toList]; simpa using hn
    have hd : C.toList.drop off = (.int .i64 n) :: C.toList.drop (off + 1) := by
      obtain ⟨hlt, e⟩ := List.getElem?_eq_some_iff.1 hn
      rw [List.drop_eq_getElem_cons hlt, e]
    rw [hd, List.take_succ_cons]
    obtain ⟨j, hj, hr⟩ := red_rem 1 (by decide) n
    obtain rfl : j = 0 := by omega
    exact .cons _ _ _ _ (.red _ _ _ _ _ hr) ih
theorem cellsOf_len : ∀ m : Nat, (cellsOf m).length = m
  | 0 => rfl
  | m + 1 => by have := cellsOf_len m; simpa [cellsOf, rep, cat] using this
theorem good1 {b : Base} (hX : @Env Tryz.prog hookM b) : ∀ CS0 mch, Go.VM.Reach Tryz.prog b 3 CS0 mch s1_0 → Go.VM.Ends Tryz.prog b 3 CS0 isTrue mch := fun CS0 =>
  @join_endsD Tryz.prog b 3 CS0 hookM isTrue hP hX mixed _ _ _ _ _ _ _ _ j1_0 (@last_ends Tryz.prog b 3 CS0 hookM isTrue hP hX mixed _ _ last1)
theorem good2 {b : Base} (hX : @Env Tryz.prog hookM b) : ∀ CS0 mch, Go.VM.Reach Tryz.prog b 3 CS0 mch s2_0 → Go.VM.Ends Tryz.prog b 3 CS0 isTrue mch := fun CS0 =>
  @join_endsD Tryz.prog b 3 CS0 hookM isTrue hP hX mixed _ _ _ _ _ _ _ _ j2_0 (@join_endsD Tryz.prog b 3 CS0 hookM isTrue hP hX mixed _ _ _ _ _ _ _ _ j2_1 (@last_ends Tryz.prog b 3 CS0 hookM isTrue hP hX mixed _ _ last2))
theorem good3 {b : Base} (hX : @Env Tryz.prog hookM b) : ∀ CS0 mch, Go.VM.Reach Tryz.prog b 3 CS0 mch s3_0 → Go.VM.Ends Tryz.prog b 3 CS0 isTrue mch := fun CS0 =>
  @join_endsD Tryz.prog b 3 CS0 hookM isTrue hP hX mixed _ _ _ _ _ _ _ _ j3_0 (@join_endsD Tryz.prog b 3 CS0 hookM isTrue hP hX mixed _ _ _ _ _ _ _ _ j3_1 (@join_endsD Tryz.prog b 3 CS0 hookM isTrue hP hX mixed _ _ _ _ _ _ _ _ j3_2 (@last_ends Tryz.prog b 3 CS0 hookM isTrue hP hX mixed _ _ last3)))
theorem good4 {b : Base} (hX : @Env Tryz.prog hookM b) : ∀ CS0 mch, Go.VM.Reach Tryz.prog b 3 CS0 mch s4_0 → Go.VM.Ends Tryz.prog b 3 CS0 isTrue mch := fun CS0 =>
  @join_endsD Tryz.prog b 3 CS0 hookM isTrue hP hX mixed _ _ _ _ _ _ _ _ j4_0 (@join_endsD Tryz.prog b 3 CS0 hookM isTrue hP hX mixed _ _ _ _ _ _ _ _ j4_1 (@join_endsD Tryz.prog b 3 CS0 hookM isTrue hP hX mixed _ _ _ _ _ _ _ _ j4_2 (@join_endsD Tryz.prog b 3 CS0 hookM isTrue hP hX mixed _ _ _ _ _ _ _ _ j4_3 (@last_ends Tryz.prog b 3 CS0 hookM isTrue hP hX mixed _ _ last4))))
theorem good5 {b : Base} (hX : @Env Tryz.prog hookM b) : ∀ CS0 mch, Go.VM.Reach Tryz.prog b 3 CS0 mch s5_0 → Go.VM.Ends Tryz.prog b 3 CS0 isTrue mch := fun CS0 =>
  @join_endsD Tryz.prog b 3 CS0 hookM isTrue hP hX mixed _ _ _ _ _ _ _ _ j5_0 (@join_endsD Tryz.prog b 3 CS0 hookM isTrue hP hX mixed _ _ _ _ _ _ _ _ j5_1 (@join_endsD Tryz.prog b 3 CS0 hookM isTrue hP hX mixed _ _ _ _ _ _ _ _ j5_2 (@join_endsD Tryz.prog b 3 CS0 hookM isTrue hP hX mixed _ _ _ _ _ _ _ _ j5_3 (@join_endsD Tryz.prog b 3 CS0 hookM isTrue hP hX mixed _ _ _ _ _ _ _ _ j5_4 (@last_ends Tryz.prog b 3 CS0 hookM isTrue hP hX mixed _ _ last5)))))
theorem good6 {b : Base} (hX : @Env Tryz.prog hookM b) : ∀ CS0 mch, Go.VM.Reach Tryz.prog b 3 CS0 mch s6_0 → Go.VM.Ends Tryz.prog b 3 CS0 isTrue mch := fun CS0 =>
  @join_endsD Tryz.prog b 3 CS0 hookM isTrue hP hX mixed _ _ _ _ _ _ _ _ j6_0 (@join_endsD Tryz.prog b 3 CS0 hookM isTrue hP hX mixed _ _ _ _ _ _ _ _ j6_1 (@join_endsD Tryz.prog b 3 CS0 hookM isTrue hP hX mixed _ _ _ _ _ _ _ _ j6_2 (@join_endsD Tryz.prog b 3 CS0 hookM isTrue hP hX mixed _ _ _ _ _ _ _ _ j6_3 (@join_endsD Tryz.prog b 3 CS0 hookM isTrue hP hX mixed _ _ _ _ _ _ _ _ j6_4 (@join_endsD Tryz.prog b 3 CS0 hookM isTrue hP hX mixed _ _ _ _ _ _ _ _ j6_5 (@last_ends Tryz.prog b 3 CS0 hookM isTrue hP hX mixed _ _ last6))))))
theorem good7 {b : Base} (hX : @Env Tryz.prog hookM b) : ∀ CS0 mch, Go.VM.Reach Tryz.prog b 3 CS0 mch s7_0 → Go.VM.Ends Tryz.prog b 3 CS0 isTrue mch := fun CS0 =>
  @join_endsD Tryz.prog b 3 CS0 hookM isTrue hP hX mixed _ _ _ _ _ _ _ _ j7_0 (@join_endsD Tryz.prog b 3 CS0 hookM isTrue hP hX mixed _ _ _ _ _ _ _ _ j7_1 (@join_endsD Tryz.prog b 3 CS0 hookM isTrue hP hX mixed _ _ _ _ _ _ _ _ j7_2 (@join_endsD Tryz.prog b 3 CS0 hookM isTrue hP hX mixed _ _ _ _ _ _ _ _ j7_3 (@join_endsD Tryz.prog b 3 CS0 hookM isTrue hP hX mixed _ _ _ _ _ _ _ _ j7_4 (@join_endsD Tryz.prog b 3 CS0 hookM isTrue hP hX mixed _ _ _ _ _ _ _ _ j7_5 (@join_endsD Tryz.prog b 3 CS0 hookM isTrue hP hX mixed _ _ _ _ _ _ _ _ j7_6 (@last_ends Tryz.prog b 3 CS0 hookM isTrue hP hX mixed _ _ last7)))))))
theorem good8 {b : Base} (hX : @Env Tryz.prog hookM b) : ∀ CS0 mch, Go.VM.Reach Tryz.prog b 3 CS0 mch s8_0 → Go.VM.Ends Tryz.prog b 3 CS0 isTrue mch := fun CS0 =>
  @join_endsD Tryz.prog b 3 CS0 hookM isTrue hP hX mixed _ _ _ _ _ _ _ _ j8_0 (@join_endsD Tryz.prog b 3 CS0 hookM isTrue hP hX mixed _ _ _ _ _ _ _ _ j8_1 (@join_endsD Tryz.prog b 3 CS0 hookM isTrue hP hX mixed _ _ _ _ _ _ _ _ j8_2 (@join_endsD Tryz.prog b 3 CS0 hookM isTrue hP hX mixed _ _ _ _ _ _ _ _ j8_3 (@join_endsD Tryz.prog b 3 CS0 hookM isTrue hP hX mixed _ _ _ _ _ _ _ _ j8_4 (@join_endsD Tryz.prog b 3 CS0 hookM isTrue hP hX mixed _ _ _ _ _ _ _ _ j8_5 (@join_endsD Tryz.prog b 3 CS0 hookM isTrue hP hX mixed _ _ _ _ _ _ _ _ j8_6 (@join_endsD Tryz.prog b 3 CS0 hookM isTrue hP hX mixed _ _ _ _ _ _ _ _ j8_7 (@last_ends Tryz.prog b 3 CS0 hookM isTrue hP hX mixed _ _ last8))))))))
theorem good9 {b : Base} (hX : @Env Tryz.prog hookM b) : ∀ CS0 mch, Go.VM.Reach Tryz.prog b 3 CS0 mch s9_0 → Go.VM.Ends Tryz.prog b 3 CS0 isTrue mch := fun CS0 =>
  @join_endsD Tryz.prog b 3 CS0 hookM isTrue hP hX mixed _ _ _ _ _ _ _ _ j9_0 (@join_endsD Tryz.prog b 3 CS0 hookM isTrue hP hX mixed _ _ _ _ _ _ _ _ j9_1 (@join_endsD Tryz.prog b 3 CS0 hookM isTrue hP hX mixed _ _ _ _ _ _ _ _ j9_2 (@join_endsD Tryz.prog b 3 CS0 hookM isTrue hP hX mixed _ _ _ _ _ _ _ _ j9_3 (@join_endsD Tryz.prog b 3 CS0 hookM isTrue hP hX mixed _ _ _ _ _ _ _ _ j9_4 (@join_endsD Tryz.prog b 3 CS0 hookM isTrue hP hX mixed _ _ _ _ _ _ _ _ j9_5 (@join_endsD Tryz.prog b 3 CS0 hookM isTrue hP hX mixed _ _ _ _ _ _ _ _ j9_6 (@join_endsD Tryz.prog b 3 CS0 hookM isTrue hP hX mixed _ _ _ _ _ _ _ _ j9_7 (@join_endsD Tryz.prog b 3 CS0 hookM isTrue hP hX mixed _ _ _ _ _ _ _ _ j9_8 (@last_ends Tryz.prog b 3 CS0 hookM isTrue hP hX mixed _ _ last9)))))))))
/-- a slice whose first cells are known -/
theorem law_row (hL : LaidOk Tryz.prog laidL tot W) {n lo hi : Nat} {a : Addr} {len cap : Nat} {zs : List Int} (hn : 0 < n) (hlo : lo ≤ len) (hhi : len < hi) (hnl : n ≤ len) (hl : len ≤ cap) (hz : zs.length = cap) (hcell : ∀ i, i < zs.length → W.cell? (a.add i) = some (.int .i64 (zs.getD i 0)))
    (hf1 : freeSymO [(keyL, .ivl lo hi)] ⟨startT laidL Tryz.prog.globals.size, keyN 4096⟩ = true) (hf2 : noneAt (putSymO [(keyL, .ivl lo hi)] ⟨startT laidL Tryz.prog.globals.size, keyN 4096⟩) keyA = true)
    (good : ∀ CS0 mch, Go.VM.Reach Tryz.prog (Base.at W (startRho tot Tryz.prog.globals.size)) 3 CS0 mch (stA Tryz.prog laidL 3 [.sliceG keyA keyL] [(keyL, .ivl lo hi)] keyA (cellsOf n) (keyN 4096)) → Go.VM.Ends Tryz.prog (Base.at W (startRho tot Tryz.prog.globals.size)) 3 CS0 isTrue mch) :
    Calls Tryz.prog 3 ⟨[.slice (some a) len cap]⟩ W fun e w' => e = .returned (.bool true) ∧ Grew W w' := by
  obtain ⟨B, off, rfl⟩ := cell_at0 (hcell 0 (by omega))
  obtain ⟨C, e, q, hO, h0⟩ := cell_in (hcell 0 (by omega))
  have hc : ∀ i, i < n → ∃ z, C[off + i]? = some (.int .i64 z) := fun i hi => by
    obtain ⟨C', e', q', h2, h3⟩ := cell_in (hcell i (by omega))
    rw [hO] at h2; cases h2
    exact ⟨_, h3⟩
  have hlen : off + n ≤ C.size := by
    obtain ⟨z, hz'⟩ := hc (n - 1) (by omega)
    have := (Array.getElem?_eq_some_iff.1 hz').1
    omega
  refine row_calls g64 hL (Nat.lt_of_lt_of_le (by decide +kernel : 0 < Tryz.prog.globals.size) hL.1) (js := [len]) hf1 ⟨⟨hlo, hhi⟩, trivial⟩ hf2 hO (base := off) ?_ ?_ (.cons _ _ _ _ (.sliceG keyA keyL ⟨B, off, C.size⟩ ⟨0, len, 0⟩ cap (Rho.add_same _ _ _) ?_) .nil) good ⟨_, (body_of Tryz.func3 (by kernel_rfl) (by kernel_rfl)).choose_spec⟩
  · exact ⟨by rw [cellsOf_len]; exact hlen, by rw [cellsOf_len]; exact cells_rel n off hc⟩
  · intro g o hg hlk
    have hs : g = 1 := by
      by_cases e : g = 1
      · exact e
      · have hne : (g == 1) = false := by simpa using e
        simp only [laidL, List.lookup, hne] at hlk
        cases hlk
    subst hs
    obtain rfl : AObj.fixed 0 (spaceZ.map fun z => AV.int .u8 z) = o := Option.some.inj hlk
    intro hB
    subst hB
    obtain ⟨C', q', ⟨e', hO'⟩, hsz, hrel⟩ := hL.2 1 _ hg hlk (fun _ => False) (fun _ => none)
    rw [hO] at hO'; cases hO'
    have hsz : C.size = 256 := hsz
    have hoff := (Array.getElem?_eq_some_iff.1 h0).1
    obtain ⟨z, hz'⟩ := hc 0 hn
    have h2 := hrel.2
    simp only [List.drop_zero] at h2
    have hlt : off < 256 := by omega
    have hAV := map_at (l := spaceZ) (i := off) (by rw [spaceLen]; exact hlt)
    obtain ⟨V, hV1, hV2⟩ := RelL.get? off h2 hAV
    cases hV2
    rw [List.getElem?_take, if_pos (by rw [List.length_map, spaceLen]; exact hlt), Array.getElem?_toList] at hV1
    rw [Nat.add_zero] at hz'
    rw [hz'] at hV1
    cases hV1
  · simp [symRhoO, Rho.add, keyA, keyL]
/-- the law answers true, in whatever world -/
theorem law_ok (hm : W.cell? ⟨0, 0, none⟩ = some (.int .i64 m)) (hL : LaidOk Tryz.prog laidL tot W) {V : Value} (hV : ArgOk W V) : Calls Tryz.prog 3 ⟨[V]⟩ W fun e w' => e = .returned (.bool true) ∧ Grew W w' := by
  have hX : @Env Tryz.prog hookM (Base.at W (startRho tot Tryz.prog.globals.size)) := @Env.mk Tryz.prog hookM _ (@extOk_of_rows hookM _ (rows_ok hookM rfl)) (sumM (b := Base.at W _) hm (.of_at hL))
  cases hV with
  | nil => exact @truth_of hookM _ (rows_ok hookM rfl) mixed g64 laidL tot 3 [.nilSlice] [.slice none 0 0] W (sumM (b := Base.at W _) hm (.of_at hL)) hL (.cons _ _ _ _ .nilSlice .nil) _ run_nil
  | row a len cap zs hl hmx hz hcell =>
    by_cases h0 : len = 0
    · subst h0
      exact @truth_of hookM _ (rows_ok hookM rfl) mixed g64 laidL tot 3 [.emptyS] [.slice (some a) 0 cap] W (sumM (b := Base.at W _) hm (.of_at hL)) hL (.cons _ _ _ _ (.emptyS a cap) .nil) _ run_emp
    by_cases h1 : len = 1
    · exact law_row hL (n := 1) (lo := 1) (hi := 2) (by decide) (by omega) (by omega) (by omega) hl hz hcell (by decide +kernel) (by decide +kernel) (good1 hX)
    by_cases h2 : len = 2
    · exact law_row hL (n := 2) (lo := 2) (hi := 3) (by decide) (by omega) (by omega) (by omega) hl hz hcell (by decide +kernel) (by decide +kernel) (good2 hX)
    by_cases h3 : len = 3
    · exact law_row hL (n := 3) (lo := 3) (hi := 4) (by decide) (by omega) (by omega) (by omega) hl hz hcell (by decide +kernel) (by decide +kernel) (good3 hX)
    by_cases h4 : len = 4
    · exact law_row hL (n := 4) (lo := 4) (hi := 5) (by decide) (by omega) (by omega) (by omega) hl hz hcell (by decide +kernel) (by decide +kernel) (good4 hX)
    by_cases h5 : len = 5
    · exact law_row hL (n := 5) (lo := 5) (hi := 6) (by decide) (by omega) (by omega) (by omega) hl hz hcell (by decide +kernel) (by decide +kernel) (good5 hX)
    by_cases h6 : len = 6
    · exact law_row hL (n := 6) (lo := 6) (hi := 7) (by decide) (by omega) (by omega) (by omega) hl hz hcell (by decide +kernel) (by decide +kernel) (good6 hX)
    by_cases h7 : len = 7
    · exact law_row hL (n := 7) (lo := 7) (hi := 8) (by decide) (by omega) (by omega) (by omega) hl hz hcell (by decide +kernel) (by decide +kernel) (good7 hX)
    by_cases h8 : len = 8
    · exact law_row hL (n := 8) (lo := 8) (hi := 9) (by decide) (by omega) (by omega) (by omega) hl hz hcell (by decide +kernel) (by decide +kernel) (good8 hX)
    exact law_row hL (n := 9) (lo := 9) (hi := 9223372036854775808) (by decide) (by omega) (by simp only [maxLen] at hmx; omega) (by omega) hl hz hcell (by decide +kernel) (by decide +kernel) (good9 hX)
end
theorem own : ownKnob Tryz.prog.godebug = none := by kernel_rfl
theorem gSpace : Tryz.prog.globalNamed "strings.asciiSpace" = some 1 := by kernel_rfl
theorem tSpace : (Tryz.prog.globals[1]?).map (·.type) = some 370 := by kernel_rfl
theorem lSpace : spaceZ.length = 256 := by kernel_rfl
theorem dSpace : (Rows.laid_strings_asciiSpace : DataW Unit) = .agg (spaceZ.map fun z => .lit (.int .u8 z)) := by kernel_rfl
theorem laid_of {W : World} (hs : Tryz.prog.globals.size ≤ W.heap.size) (h : laidMetH Tryz.prog Rows.modelCreatesRow.laid W) : LaidOk Tryz.prog laidL tot W := by
  rw [MakeChecks.laidMetH_plain _ _ _ (by kernel_rfl)] at h
  obtain ⟨ps, ⟨_, _, _, _, _, _, _, _, _, _, ⟨_, _, _, _, _, _, _, _, _, _, ⟨g, t, cs, fuel, p, q, hg, ht, hv, hd, _, _⟩, _⟩, _⟩, _, _⟩ := h
  obtain rfl := Option.some.inj (gSpace.symm.trans hg)
  obtain rfl := Option.some.inj (tSpace.symm.trans ht)
  rw [dSpace] at hd
  have hT := table_of gSpace hv Tryz.underlying370 Tryz.underlying5 (by kernel_rfl) (by kernel_rfl) lSpace hd
  refine ⟨hs, fun g o _ hl N ρ => ?_⟩
  by_cases e : g = 1
  · subst e
    obtain rfl : AObj.fixed 0 (spaceZ.map fun z => AV.int .u8 z) = o := Option.some.inj hl
    exact hT N ρ
  · have hne : (g == 1) = false := by simpa using e
    simp only [laidL, List.lookup, hne] at hl
    cases hl
theorem heap_size {W : World} (h : W.ShapedOpen Tryz.prog) : Tryz.prog.globals.size ≤ W.heap.size := by
  obtain ⟨o, _, ho, _⟩ := h.2 _ (Nat.le_refl _) (of_decide_eq_true (by kernel_rfl))
  exact Nat.le_of_lt (Array.getElem?_eq_some_iff.1 ho).1
theorem same_of_grew {W W' : World} (hg : Grew W W') {p : MemPlace} (hp : p.block < W.heap.size) : W.sameAt W' p := by
  cases p with
  | cell b o => exact World.cell?_of_block (w := W) (hg.old b hp)
  | map b => exact hg.old b hp
set_option maxRecDepth 100000 in
theorem lifted (os : Os) (started : os.Started) (H : Type) (enc : TypeId × Value → H) :
    ReturnsInHanded {} Tryz.checked os 3 .any (fun w args => (Rows.modelCreatesSpec.pre enc Tryz.prog Tryz.f3 Rows.modelCreatesRow.domain false w args ∧ laidMetH Tryz.prog Rows.modelCreatesRow.laid w) ∧ sizedMet enc Tryz.prog Tryz.f3 (OpenSpec.ofChange Rows.modelCreatesSpec) false w args)
      (Rows.modelCreatesSpec.post enc Tryz.prog Tryz.f3 false true false false) := by
  refine handed_of (C := Tryz.checked) (X := fun w _ => laidMetH Tryz.prog Rows.modelCreatesRow.laid w) (fun _ _ _ hh h => h.of_heap hh) own started (by kernel_rfl) Tryz.func3
    (ChangeSpec.witness_shaped (enc := enc) (C := Tryz.checked) (os := os) (X := fun w _ => laidMetH Tryz.prog Rows.modelCreatesRow.laid w) false (World.laidAll Tryz.prog os Rows.modelCreatesRow.laid) #[.slice none 0 0] 8 (World.laidAll_os _ _ _)
      (World.shaped_of_ZipB (by kernel_rfl) (by kernel_rfl)) (by kernel_rfl) (by kernel_rfl) (by kernel_rfl)
      (by rw [MakeChecks.laidMetH_plain _ _ _ (by kernel_rfl)]; exact laidMet_laidAll _ (by kernel_rfl) (by kernel_rfl))) ?_
  intro W base args ds gs before hval0 hW hL hsh
  have hW' := hW
  obtain ⟨p, q, hA0, hV, rfl, _, _⟩ := hW
  have hA : DataW.TrodAll enc Tryz.prog W 0 (fun _ => true) true Tryz.f3.params.toList args.toList ds p := hA0
  rw [Tryz.params3] at hA
  obtain ⟨v0, d0, rfl, rfl, h0⟩ := trodAll_one hA
  obtain ⟨a0, len, cap, rfl⟩ := okWide_slice Tryz.underlying22 (hval0 0 22 v0 (by rw [← Array.getElem?_toList, Tryz.params3]; rfl) rfl)
  have h0k := h0
  obtain ⟨fuel, hf⟩ := h0
  obtain ⟨rfl, rfl⟩ := trodVars_none hV
  have hlt : ∀ x ∈ p, x.block < W.heap.size := fun x hx => by simpa using hW'.lt x (List.mem_append_left _ hx)
  have hV0 : ArgOk W (.slice a0 len cap) := by
    rcases open_ints Tryz.underlying22 Tryz.underlying3 (by kernel_rfl : Tryz.prog.cellsOf 3 = 1) hf with ⟨hcs, _⟩ | ⟨a, len', cap', zs, hcs, _, hl, hmx, hz, _, hcell, _⟩
    · simp [Value.cells] at hcs
      obtain ⟨rfl, rfl, rfl⟩ := hcs
      exact .nil
    · simp [Value.cells] at hcs
      obtain ⟨rfl, rfl, rfl⟩ := hcs
      exact .row _ _ _ zs hl hmx (by simpa using hz) hcell
  obtain ⟨m, hm⟩ := Tryz.laysM143.s1_3 W hsh
  refine (law_ok hm (laid_of (heap_size hsh) hL) hV0).mono fun e W' ⟨he, hg⟩ => ?_
  subst he
  refine ⟨_, rfl, ⟨_, _, _, [], p, [], hW', trodAll_mk1 (shut_bool Tryz.underlying4 _), ?_, rfl, keptBut_of_grew hg, fun h => by cases h⟩⟩
  rw [Tryz.params3]
  exact trodAll_mk1 (WideElems.Trod_stays (by kernel_rfl) (by kernel_rfl) (of_decide_eq_true (by kernel_rfl)) h0k (fun x hx => same_of_grew hg (hlt x hx)) (fun x hx => by simpa using hlt x hx))
end Go.Proofs.YtpdgopgcodmilaaGreatDoor

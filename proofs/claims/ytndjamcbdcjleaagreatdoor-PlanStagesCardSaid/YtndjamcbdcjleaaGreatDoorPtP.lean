/- PlanStages answers true, and nothing that was there is turned: the contract, out of the evaluator's runs, and its lift to the row's form. Conditions: those of the given row (the listed variables read as listed). -/
import Derived.Test.YtndjamcbdcjleaaGreatDoorPtRA
import Derived.Test.YtndjamcbdcjleaaGreatDoorPtMT
import Derived.Test.YtndjamcbdcjleaaGreatDoorPtMX0
import Derived.Test.YtndjamcbdcjleaaGreatDoorPtMX1
import Derived.Test.YtndjamcbdcjleaaGreatDoorPtMX2
import Derived.Test.YtndjamcbdcjleaaGreatDoorPtMX3
import Derived.Test.YtndjamcbdcjleaaGreatDoorPtMX4
import Derived.Test.YtndjamcbdcjleaaGreatDoorPtMX5
import Derived.Test.YtndjamcbdcjleaaGreatDoorPtMX6
import Derived.Test.YtndjamcbdcjleaaGreatDoorPtMX7
import Derived.Test.YtndjamcbdcjleaaGreatDoorPtFX0
import Derived.Test.YtndjamcbdcjleaaGreatDoorPtFX1
import Derived.Test.YtndjamcbdcjleaaGreatDoorPtFX2
import Derived.Test.YtndjamcbdcjleaaGreatDoorPtFX3
import Derived.Test.YtndjamcbdcjleaaGreatDoorPtRM0
import Derived.Test.YtndjamcbdcjleaaGreatDoorPtRM1
import Derived.Test.YtndjamcbdcjleaaGreatDoorPtRM2
import Derived.Test.YtndjamcbdcjleaaGreatDoorPtRM3
import Derived.Test.YtndjamcbdcjleaaGreatDoorPtRM4
import Derived.Test.YtndjamcbdcjleaaGreatDoorRows
import Derived.SevenTiedAt
import Derived.Stop.Joined
namespace Go.Proofs.YtndjamcbdcjleaaGreatDoor
open Go.ChangeShapes Go.WideShapes Go.ChangeAt Go.RowKit Go.VM
theorem mixed : Tryz.prog.follows .mixedOrders = true := by kernel_rfl
theorem g64 : Tryz.prog.globals.size ≤ 64 := by decide +kernel
theorem row252 : Extern.findNext Tryz.f252 = none ∧ Extern.find Tryz.f252 = some Extern.BytealgIndexByte.indexByte := ⟨by kernel_rfl, by kernel_rfl⟩
theorem vm252 : vmRow 4 Tryz.f252 = some Extern.BytealgIndexByte.indexByte := rfl
theorem row236 : Extern.findNext Tryz.f236 = none ∧ Extern.find Tryz.f236 = some (Extern.BytealgMakeNoZero.makeNoZero Tryz.f236.params Tryz.f236.resultTypes) := ⟨by kernel_rfl, by kernel_rfl⟩
theorem vm236 : vmRow 5 Tryz.f236 = some (Extern.BytealgMakeNoZero.makeNoZero Tryz.f236.params Tryz.f236.resultTypes) := rfl
theorem row257 : Extern.findNext Tryz.f257 = none ∧ Extern.find Tryz.f257 = some Extern.MathFloatBits.float64bits := ⟨by kernel_rfl, by kernel_rfl⟩
theorem vm257 : vmRow 1 Tryz.f257 = some Extern.MathFloatBits.float64bits := rfl
theorem row222 : Extern.findNext Tryz.f222 = none ∧ Extern.find Tryz.f222 = some Extern.MathFloatBits.float64frombits := ⟨by kernel_rfl, by kernel_rfl⟩
theorem vm222 : vmRow 2 Tryz.f222 = some Extern.MathFloatBits.float64frombits := rfl
theorem row235 : Extern.findNext Tryz.f235 = none ∧ Extern.find Tryz.f235 = some Extern.AbiNoEscape.same := ⟨by kernel_rfl, by kernel_rfl⟩
theorem vm235 : vmRow 3 Tryz.f235 = some Extern.AbiNoEscape.same := rfl
theorem row290 : Extern.findNext Tryz.f290 = none ∧ Extern.find Tryz.f290 = some (Extern.MathFloor.toIntegral "math.archTrunc" .zero) := ⟨by kernel_rfl, by kernel_rfl⟩
theorem vm290 : vmRow 6 Tryz.f290 = some (Extern.MathFloor.toIntegral "math.archTrunc" .zero) := rfl
theorem rows_ok (H : Hook) (hH : H.exts = lookN extL) : @RowsOk H Tryz.prog := by
  refine @rowsOk_of H _ extL (fun f => by show H.exts f = _; rw [hH]) fun f k hm fd hp impl hv => ?_
  simp only [extL, List.mem_cons, List.not_mem_nil, or_false, Prod.mk.injEq] at hm
  rcases hm with ⟨rfl, rfl⟩ | ⟨rfl, rfl⟩ | ⟨rfl, rfl⟩ | ⟨rfl, rfl⟩ | ⟨rfl, rfl⟩ | ⟨rfl, rfl⟩
  · rw [Tryz.func252] at hp; cases hp; rw [vm252] at hv; cases hv; exact row252
  · rw [Tryz.func236] at hp; cases hp; rw [vm236] at hv; cases hv; exact row236
  · rw [Tryz.func257] at hp; cases hp; rw [vm257] at hv; cases hv; exact row257
  · rw [Tryz.func222] at hp; cases hp; rw [vm222] at hv; cases hv; exact row222
  · rw [Tryz.func235] at hp; cases hp; rw [vm235] at hv; cases hv; exact row235
  · rw [Tryz.func290] at hp; cases hp; rw [vm290] at hv; cases hv; exact row290
theorem body6 : ∃ c, bodyOf Tryz.prog 6 = some c := body_of Tryz.func6 (by kernel_rfl) (by kernel_rfl)
theorem body13 : ∃ c, bodyOf Tryz.prog 13 = some c := body_of Tryz.func13 (by kernel_rfl) (by kernel_rfl)
theorem body37 : ∃ c, bodyOf Tryz.prog 37 = some c := body_of Tryz.func37 (by kernel_rfl) (by kernel_rfl)
theorem body56 : ∃ c, bodyOf Tryz.prog 56 = some c := body_of Tryz.func56 (by kernel_rfl) (by kernel_rfl)
theorem body240 : ∃ c, bodyOf Tryz.prog 240 = some c := body_of Tryz.func240 (by kernel_rfl) (by kernel_rfl)
theorem body242 : ∃ c, bodyOf Tryz.prog 242 = some c := body_of Tryz.func242 (by kernel_rfl) (by kernel_rfl)
theorem body114 : ∃ c, bodyOf Tryz.prog 114 = some c := body_of Tryz.func114 (by kernel_rfl) (by kernel_rfl)
theorem body172 : ∃ c, bodyOf Tryz.prog 172 = some c := body_of Tryz.func172 (by kernel_rfl) (by kernel_rfl)
theorem body77 : ∃ c, bodyOf Tryz.prog 77 = some c := body_of Tryz.func77 (by kernel_rfl) (by kernel_rfl)
theorem gm_lt : 0 < Tryz.prog.globals.size := by decide +kernel
section
variable {b : Base} {W : World} {m : Int}
theorem sat_ix [Hook] (hm : b.w.cell? ⟨0, 0, none⟩ = some (.int .i64 m)) (hk : b.Keeps Tryz.prog laidL tot) : Sat Tryz.prog b 114 1 := fun s sub w _ ho hl => Any.strings_Index { Tryz.laysM143 with } s sub m w hl (cell_keeps hk hm gm_lt ho)
theorem sat_ixl [Hook] (hm : b.w.cell? ⟨0, 0, none⟩ = some (.int .i64 m)) (hk : b.Keeps Tryz.prog laidL tot) : Sat Tryz.prog b 172 1 := fun s sub w _ ho hl => Any.stringslite_Index { Tryz.laysM219 with } s sub m w hl (cell_keeps hk hm gm_lt ho)
theorem sat_co [Hook] (hm : b.w.cell? ⟨0, 0, none⟩ = some (.int .i64 m)) (hk : b.Keeps Tryz.prog laidL tot) : Sat Tryz.prog b 77 2 := fun s sub w _ ho hl => Any.strings_Contains { Tryz.laysM144 with } s sub m w hl (cell_keeps hk hm gm_lt ho)
theorem sum0 (hm : b.w.cell? ⟨0, 0, none⟩ = some (.int .i64 m)) (hk : b.Keeps Tryz.prog laidL tot) : @SumOk Tryz.prog hook0 b :=
  @sumOk_of hook0 _ _ (@sums_of hook0 _ b sumL rfl (List.forall_mem_cons.2 ⟨body114, (List.forall_mem_cons.2 ⟨body172, (List.forall_mem_cons.2 ⟨body77, (by intro q h; cases h)⟩)⟩)⟩) (List.forall_mem_cons.2 ⟨@sat_ix b m hook0 hm hk, (List.forall_mem_cons.2 ⟨@sat_ixl b m hook0 hm hk, (List.forall_mem_cons.2 ⟨@sat_co b m hook0 hm hk, (by intro q h; cases h)⟩)⟩)⟩))
theorem sat_m0a (hm : b.w.cell? ⟨0, 0, none⟩ = some (.int .i64 m)) (hk : b.Keeps Tryz.prog laidL tot) : @Sat hookA Tryz.prog b 56 4 := ⟨PrimOk.none (k := 0), fun a r hr => ⟨@row_ok hook0 _ laidL 56 key0 r (tab0_ok a r hr), fun _ _ _ hrel hs ho => @memo_of hook0 _ (rows_ok hook0 rfl) mixed g64 laidL tot 56 r key0 _ (sum0 (b := Base.at _ _) (cell_keeps hk hm gm_lt ho) (.of_at (hk.world hs ho))) (hk.world hs ho) _ _ hrel (tab0_ok a r hr)⟩⟩
theorem sat_m0b (hm : b.w.cell? ⟨0, 0, none⟩ = some (.int .i64 m)) (hk : b.Keeps Tryz.prog laidL tot) : @Sat hookM Tryz.prog b 56 4 := ⟨PrimOk.none (k := 0), fun a r hr => ⟨@row_ok hook0 _ laidL 56 key0 r (tab0_ok a r hr), fun _ _ _ hrel hs ho => @memo_of hook0 _ (rows_ok hook0 rfl) mixed g64 laidL tot 56 r key0 _ (sum0 (b := Base.at _ _) (cell_keeps hk hm gm_lt ho) (.of_at (hk.world hs ho))) (hk.world hs ho) _ _ hrel (tab0_ok a r hr)⟩⟩
theorem sumA (hm : b.w.cell? ⟨0, 0, none⟩ = some (.int .i64 m)) (hk : b.Keeps Tryz.prog laidL tot) : @SumOk Tryz.prog hookA b :=
  @sumOk_of hookA _ _ (@sums_of hookA _ b sumLA rfl (List.forall_mem_cons.2 ⟨body56, (List.forall_mem_cons.2 ⟨body240, (List.forall_mem_cons.2 ⟨body242, (List.forall_mem_cons.2 ⟨body114, (List.forall_mem_cons.2 ⟨body172, (List.forall_mem_cons.2 ⟨body77, (by intro q h; cases h)⟩)⟩)⟩)⟩)⟩)⟩) (List.forall_mem_cons.2 ⟨sat_m0a hm hk, (List.forall_mem_cons.2 ⟨(⟨@sortedStr_ok Tryz.prog b 240 9 isItS (sortedAtS b), fun _ r hr => by cases hr⟩ : @Sat hookA Tryz.prog b 240 6), (List.forall_mem_cons.2 ⟨(⟨@repeatP_ok Tryz.prog b 242 (repeat_at b), fun _ r hr => by cases hr⟩ : @Sat hookA Tryz.prog b 242 7), (List.forall_mem_cons.2 ⟨@sat_ix b m hookA hm hk, (List.forall_mem_cons.2 ⟨@sat_ixl b m hookA hm hk, (List.forall_mem_cons.2 ⟨@sat_co b m hookA hm hk, (by intro q h; cases h)⟩)⟩)⟩)⟩)⟩)⟩))
/-- 'awake' answers true, in whatever world -/
theorem awake_ok (hm : W.cell? ⟨0, 0, none⟩ = some (.int .i64 m)) (hL : LaidOk Tryz.prog laidL tot W) : Calls Tryz.prog 6 #[] W fun e w' => e = .returned (.bool true) ∧ Grew W w' :=
  @truth_of hookA _ (rows_ok hookA rfl) mixed g64 laidL tot 6 [] [] W (sumA (b := Base.at W _) hm (.of_at hL)) hL .nil _ awake_run
theorem sat_aw [Hook] (hm : b.w.cell? ⟨0, 0, none⟩ = some (.int .i64 m)) (hk : b.Keeps Tryz.prog laidL tot) : Sat Tryz.prog b 6 3 := fun _ hs ho => awake_ok (cell_keeps hk hm gm_lt ho) (hk.world hs ho)
theorem faces_ok : ∀ r ∈ faceRows, @rowRun hookA Tryz.prog laidL 13 key4 r = true := (List.forall_mem_cons.2 ⟨face_run0, (List.forall_mem_cons.2 ⟨face_run1, (List.forall_mem_cons.2 ⟨face_run2, (List.forall_mem_cons.2 ⟨face_run3, (List.forall_mem_cons.2 ⟨face_run4, (List.forall_mem_cons.2 ⟨face_run5, (List.forall_mem_cons.2 ⟨face_run6, (List.forall_mem_cons.2 ⟨face_run7, (List.forall_mem_cons.2 ⟨face_run8, (List.forall_mem_cons.2 ⟨face_run9, (by intro p h; cases h)⟩)⟩)⟩)⟩)⟩)⟩)⟩)⟩)⟩)⟩)
theorem sat_face (hm : b.w.cell? ⟨0, 0, none⟩ = some (.int .i64 m)) (hk : b.Keeps Tryz.prog laidL tot) : @Sat hookM Tryz.prog b 13 5 := by
  refine ⟨PrimOk.none (k := 1), fun _ r hr => ?_⟩
  have hr : r ∈ faceRows := hr
  exact ⟨@row_ok hookA _ laidL 13 key4 r (faces_ok r hr), fun _ _ _ hrel hs ho => @memo_of hookA _ (rows_ok hookA rfl) mixed g64 laidL tot 13 r key4 _ (sumA (b := Base.at _ _) (cell_keeps hk hm gm_lt ho) (.of_at (hk.world hs ho))) (hk.world hs ho) _ _ hrel (faces_ok r hr)⟩
set_option maxRecDepth 100000 in
theorem mrows_ok : ∀ r ∈ mrows, @RowRuns hookA Tryz.prog laidL 37 keyT r := (List.forall_mem_cons.2 ⟨⟨mr0_ok, 500000, List.all_eq_true.1 mr0_run⟩, (List.forall_mem_cons.2 ⟨⟨mr1_ok, 500000, List.all_eq_true.1 mr1_run⟩, (List.forall_mem_cons.2 ⟨⟨mr2_ok, 500000, List.all_eq_true.1 mr2_run⟩, (List.forall_mem_cons.2 ⟨⟨mr3_ok, 500000, List.all_eq_true.1 mr3_run⟩, (List.forall_mem_cons.2 ⟨⟨mr4_ok, 500000, List.all_eq_true.1 mr4_run⟩, (List.forall_mem_cons.2 ⟨⟨mr5_ok, 500000, List.all_eq_true.1 mr5_run⟩, (List.forall_mem_cons.2 ⟨⟨mr6_ok, 500000, List.all_eq_true.1 mr6_run⟩, (List.forall_mem_cons.2 ⟨⟨mr7_ok, 500000, List.all_eq_true.1 mr7_run⟩, (List.forall_mem_cons.2 ⟨⟨mr8_ok, 500000, List.all_eq_true.1 mr8_run⟩, (List.forall_mem_cons.2 ⟨⟨mr9_ok, 500000, List.all_eq_true.1 mr9_run⟩, (List.forall_mem_cons.2 ⟨⟨mr10_ok, 500000, List.all_eq_true.1 mr10_run⟩, (List.forall_mem_cons.2 ⟨⟨mr11_ok, 500000, List.all_eq_true.1 mr11_run⟩, (List.forall_mem_cons.2 ⟨⟨mr12_ok, 500000, List.all_eq_true.1 mr12_run⟩, (List.forall_mem_cons.2 ⟨⟨mr13_ok, 500000, List.all_eq_true.1 mr13_run⟩, (List.forall_mem_cons.2 ⟨⟨mr14_ok, 500000, List.all_eq_true.1 mr14_run⟩, (List.forall_mem_cons.2 ⟨⟨mr15_ok, 500000, List.all_eq_true.1 mr15_run⟩, (List.forall_mem_cons.2 ⟨⟨mr16_ok, 500000, List.all_eq_true.1 mr16_run⟩, (List.forall_mem_cons.2 ⟨⟨mr17_ok, 500000, List.all_eq_true.1 mr17_run⟩, (List.forall_mem_cons.2 ⟨⟨mr18_ok, 500000, List.all_eq_true.1 mr18_run⟩, (List.forall_mem_cons.2 ⟨⟨mr19_ok, 500000, List.all_eq_true.1 mr19_run⟩, (List.forall_mem_cons.2 ⟨⟨mr20_ok, 500000, List.all_eq_true.1 mr20_run⟩, (List.forall_mem_cons.2 ⟨⟨mr21_ok, 500000, List.all_eq_true.1 mr21_run⟩, (List.forall_mem_cons.2 ⟨⟨mr22_ok, 500000, List.all_eq_true.1 mr22_run⟩, (List.forall_mem_cons.2 ⟨⟨mr23_ok, 500000, List.all_eq_true.1 mr23_run⟩, (List.forall_mem_cons.2 ⟨⟨mr24_ok, 500000, List.all_eq_true.1 mr24_run⟩, (List.forall_mem_cons.2 ⟨⟨mr25_ok, 500000, List.all_eq_true.1 mr25_run⟩, (List.forall_mem_cons.2 ⟨⟨mr26_ok, 500000, List.all_eq_true.1 mr26_run⟩, (List.forall_mem_cons.2 ⟨⟨mr27_ok, 500000, List.all_eq_true.1 mr27_run⟩, (List.forall_mem_cons.2 ⟨⟨mr28_ok, 500000, List.all_eq_true.1 mr28_run⟩, (List.forall_mem_cons.2 ⟨⟨mr29_ok, 500000, List.all_eq_true.1 mr29_run⟩, (List.forall_mem_cons.2 ⟨⟨mr30_ok, 500000, List.all_eq_true.1 mr30_run⟩, (List.forall_mem_cons.2 ⟨⟨mr31_ok, 500000, List.all_eq_true.1 mr31_run⟩, (List.forall_mem_cons.2 ⟨⟨mr32_ok, 500000, List.all_eq_true.1 mr32_run⟩, (List.forall_mem_cons.2 ⟨⟨mr33_ok, 500000, List.all_eq_true.1 mr33_run⟩, (List.forall_mem_cons.2 ⟨⟨mr34_ok, 500000, List.all_eq_true.1 mr34_run⟩, (List.forall_mem_cons.2 ⟨⟨mr35_ok, 500000, List.all_eq_true.1 mr35_run⟩, (List.forall_mem_cons.2 ⟨⟨mr36_ok, 500000, List.all_eq_true.1 mr36_run⟩, (List.forall_mem_cons.2 ⟨⟨mr37_ok, 500000, List.all_eq_true.1 mr37_run⟩, (List.forall_mem_cons.2 ⟨⟨mr38_ok, 500000, List.all_eq_true.1 mr38_run⟩, (List.forall_mem_cons.2 ⟨⟨mr39_ok, 500000, List.all_eq_true.1 mr39_run⟩, (List.forall_mem_cons.2 ⟨⟨mr40_ok, 500000, List.all_eq_true.1 mr40_run⟩, (List.forall_mem_cons.2 ⟨⟨mr41_ok, 500000, List.all_eq_true.1 mr41_run⟩, (List.forall_mem_cons.2 ⟨⟨mr42_ok, 500000, List.all_eq_true.1 mr42_run⟩, (List.forall_mem_cons.2 ⟨⟨mr43_ok, 500000, List.all_eq_true.1 mr43_run⟩, (List.forall_mem_cons.2 ⟨⟨mr44_ok, 500000, List.all_eq_true.1 mr44_run⟩, (List.forall_mem_cons.2 ⟨⟨mr45_ok, 500000, List.all_eq_true.1 mr45_run⟩, (List.forall_mem_cons.2 ⟨⟨mr46_ok, 500000, List.all_eq_true.1 mr46_run⟩, (List.forall_mem_cons.2 ⟨⟨mr47_ok, 500000, List.all_eq_true.1 mr47_run⟩, (List.forall_mem_cons.2 ⟨⟨mr48_ok, 500000, List.all_eq_true.1 mr48_run⟩, (List.forall_mem_cons.2 ⟨⟨mr49_ok, 500000, List.all_eq_true.1 mr49_run⟩, (List.forall_mem_cons.2 ⟨⟨mr50_ok, 500000, List.all_eq_true.1 mr50_run⟩, (List.forall_mem_cons.2 ⟨⟨mr51_ok, 500000, List.all_eq_true.1 mr51_run⟩, (List.forall_mem_cons.2 ⟨⟨mr52_ok, 500000, List.all_eq_true.1 mr52_run⟩, (List.forall_mem_cons.2 ⟨⟨mr53_ok, 500000, List.all_eq_true.1 mr53_run⟩, (List.forall_mem_cons.2 ⟨⟨mr54_ok, 500000, List.all_eq_true.1 mr54_run⟩, (List.forall_mem_cons.2 ⟨⟨mr55_ok, 500000, List.all_eq_true.1 mr55_run⟩, (List.forall_mem_cons.2 ⟨⟨mr56_ok, 500000, List.all_eq_true.1 mr56_run⟩, (List.forall_mem_cons.2 ⟨⟨mr57_ok, 500000, List.all_eq_true.1 mr57_run⟩, (by intro p h; cases h)⟩)⟩)⟩)⟩)⟩)⟩)⟩)⟩)⟩)⟩)⟩)⟩)⟩)⟩)⟩)⟩)⟩)⟩)⟩)⟩)⟩)⟩)⟩)⟩)⟩)⟩)⟩)⟩)⟩)⟩)⟩)⟩)⟩)⟩)⟩)⟩)⟩)⟩)⟩)⟩)⟩)⟩)⟩)⟩)⟩)⟩)⟩)⟩)⟩)⟩)⟩)⟩)⟩)⟩)⟩)⟩)⟩)⟩)
theorem sat_rows (hm : b.w.cell? ⟨0, 0, none⟩ = some (.int .i64 m)) (hk : b.Keeps Tryz.prog laidL tot) : @Sat hookM Tryz.prog b 37 8 := ⟨@mprim_ok hookA Tryz.prog (rows_ok hookA rfl) mixed g64 laidL tot 37 keyT mrows mrows_ok b hk (fun b' hk' hc => sumA (b := b') (hc 0 _ gm_lt hm) hk'), fun _ r hr => by cases hr⟩
theorem sumM (hm : b.w.cell? ⟨0, 0, none⟩ = some (.int .i64 m)) (hk : b.Keeps Tryz.prog laidL tot) : @SumOk Tryz.prog hookM b :=
  @sumOk_of hookM _ _ (@sums_of hookM _ b sumLM rfl (List.forall_mem_cons.2 ⟨body6, (List.forall_mem_cons.2 ⟨body13, (List.forall_mem_cons.2 ⟨body37, (List.forall_mem_cons.2 ⟨body56, (List.forall_mem_cons.2 ⟨body240, (List.forall_mem_cons.2 ⟨body242, (List.forall_mem_cons.2 ⟨body114, (List.forall_mem_cons.2 ⟨body172, (List.forall_mem_cons.2 ⟨body77, (by intro q h; cases h)⟩)⟩)⟩)⟩)⟩)⟩)⟩)⟩)⟩) (List.forall_mem_cons.2 ⟨@sat_aw b m hookM hm hk, (List.forall_mem_cons.2 ⟨sat_face hm hk, (List.forall_mem_cons.2 ⟨sat_rows hm hk, (List.forall_mem_cons.2 ⟨sat_m0b hm hk, (List.forall_mem_cons.2 ⟨(⟨@sortedStr_ok Tryz.prog b 240 9 isItS (sortedAtS b), fun _ r hr => by cases hr⟩ : @Sat hookM Tryz.prog b 240 6), (List.forall_mem_cons.2 ⟨(⟨@repeatP_ok Tryz.prog b 242 (repeat_at b), fun _ r hr => by cases hr⟩ : @Sat hookM Tryz.prog b 242 7), (List.forall_mem_cons.2 ⟨@sat_ix b m hookM hm hk, (List.forall_mem_cons.2 ⟨@sat_ixl b m hookM hm hk, (List.forall_mem_cons.2 ⟨@sat_co b m hookM hm hk, (by intro q h; cases h)⟩)⟩)⟩)⟩)⟩)⟩)⟩)⟩)⟩))
/-- the law answers true, in whatever world -/
theorem law_ok (hm : W.cell? ⟨0, 0, none⟩ = some (.int .i64 m)) (hL : LaidOk Tryz.prog laidL tot W) (x1 : Int) (x2 : Int) : Calls Tryz.prog 5 ⟨[.int .i64 x1, .int .i64 x2]⟩ W fun e w' => e = .returned (.bool true) ∧ Grew W w' := by
  have key : ∀ av : List AV, RelL (startRho tot Tryz.prog.globals.size) av [.int .i64 x1, .int .i64 x2] → @runF Tryz.prog hookM isTrue 500000 (startSt Tryz.prog laidL 5 av) = true → Calls Tryz.prog 5 ⟨[.int .i64 x1, .int .i64 x2]⟩ W fun e w' => e = .returned (.bool true) ∧ Grew W w' :=
    fun av hr hrun => @truth_of hookM _ (rows_ok hookM rfl) mixed g64 laidL tot 5 av [.int .i64 x1, .int .i64 x2] W (sumM (b := Base.at W _) hm (.of_at hL)) hL hr _ hrun
  obtain ⟨j1, l1, h1⟩ := red_and 3 (by decide) x1
  obtain rfl | rfl | rfl | rfl : j1 = 0 ∨ j1 = 1 ∨ j1 = 2 ∨ j1 = 3 := by omega
  · skip
    obtain ⟨j2, l2, h2⟩ := red_rem 1 (by decide) x2
    obtain rfl : j2 = 0 := by omega
    exact key [.red .i64 true 3 0, .red .i64 false 1 0] (.cons _ _ _ _ (.red _ _ _ _ _ h1) (.cons _ _ _ _ (.red _ _ _ _ _ h2) .nil)) main_run_0_0
  · skip
    obtain ⟨j2, l2, h2⟩ := red_rem 2 (by decide) x2
    obtain rfl | rfl : j2 = 0 ∨ j2 = 1 := by omega
    · skip
      exact key [.red .i64 true 3 1, .red .i64 false 2 0] (.cons _ _ _ _ (.red _ _ _ _ _ h1) (.cons _ _ _ _ (.red _ _ _ _ _ h2) .nil)) main_run_1_0
    · skip
      exact key [.red .i64 true 3 1, .red .i64 false 2 1] (.cons _ _ _ _ (.red _ _ _ _ _ h1) (.cons _ _ _ _ (.red _ _ _ _ _ h2) .nil)) main_run_1_1
  · skip
    obtain ⟨j2, l2, h2⟩ := red_rem 3 (by decide) x2
    obtain rfl | rfl | rfl : j2 = 0 ∨ j2 = 1 ∨ j2 = 2 := by omega
    · skip
      exact key [.red .i64 true 3 2, .red .i64 false 3 0] (.cons _ _ _ _ (.red _ _ _ _ _ h1) (.cons _ _ _ _ (.red _ _ _ _ _ h2) .nil)) main_run_2_0
    · skip
      exact key [.red .i64 true 3 2, .red .i64 false 3 1] (.cons _ _ _ _ (.red _ _ _ _ _ h1) (.cons _ _ _ _ (.red _ _ _ _ _ h2) .nil)) main_run_2_1
    · skip
      exact key [.red .i64 true 3 2, .red .i64 false 3 2] (.cons _ _ _ _ (.red _ _ _ _ _ h1) (.cons _ _ _ _ (.red _ _ _ _ _ h2) .nil)) main_run_2_2
  · skip
    obtain ⟨j2, l2, h2⟩ := red_rem 4 (by decide) x2
    obtain rfl | rfl | rfl | rfl : j2 = 0 ∨ j2 = 1 ∨ j2 = 2 ∨ j2 = 3 := by omega
    · skip
      exact key [.red .i64 true 3 3, .red .i64 false 4 0] (.cons _ _ _ _ (.red _ _ _ _ _ h1) (.cons _ _ _ _ (.red _ _ _ _ _ h2) .nil)) main_run_3_0
    · skip
      exact key [.red .i64 true 3 3, .red .i64 false 4 1] (.cons _ _ _ _ (.red _ _ _ _ _ h1) (.cons _ _ _ _ (.red _ _ _ _ _ h2) .nil)) main_run_3_1
    · skip
      exact key [.red .i64 true 3 3, .red .i64 false 4 2] (.cons _ _ _ _ (.red _ _ _ _ _ h1) (.cons _ _ _ _ (.red _ _ _ _ _ h2) .nil)) main_run_3_2
    · skip
      exact key [.red .i64 true 3 3, .red .i64 false 4 3] (.cons _ _ _ _ (.red _ _ _ _ _ h1) (.cons _ _ _ _ (.red _ _ _ _ _ h2) .nil)) main_run_3_3
end
theorem own : ownKnob Tryz.prog.godebug = none := by kernel_rfl
theorem gSpace : Tryz.prog.globalNamed "strings.asciiSpace" = some 1 := by kernel_rfl
theorem tSpace : (Tryz.prog.globals[1]?).map (·.type) = some 260 := by kernel_rfl
theorem lSpace : spaceZ.length = 256 := by kernel_rfl
theorem dSpace : (Rows.laid_strings_asciiSpace : DataW Unit) = .agg (spaceZ.map fun z => .lit (.int .u8 z)) := by kernel_rfl
theorem laid_of {W : World} (hs : Tryz.prog.globals.size ≤ W.heap.size) (h : laidMetH Tryz.prog Rows.planStagesRow.laid W) : LaidOk Tryz.prog laidL tot W := by
  rw [MakeChecks.laidMetH_plain _ _ _ (by kernel_rfl)] at h
  obtain ⟨ps, ⟨_, _, _, _, _, _, _, _, _, _, ⟨_, _, _, _, _, _, _, _, _, _, ⟨g, t, cs, fuel, p, q, hg, ht, hv, hd, _, _⟩, _⟩, _⟩, _, _⟩ := h
  obtain rfl := Option.some.inj (gSpace.symm.trans hg)
  obtain rfl := Option.some.inj (tSpace.symm.trans ht)
  rw [dSpace] at hd
  have hT := table_of gSpace hv Tryz.underlying260 Tryz.underlying5 (by kernel_rfl) (by kernel_rfl) lSpace hd
  refine ⟨hs, fun g o _ hl N ρ => ?_⟩
  by_cases e : g = 1
  · subst e
    obtain rfl : AObj.fixed 0 (spaceZ.map fun z => AV.int .u8 z) = o := Option.some.inj hl
    exact hT N ρ
  · have hne : (g == 1) = false := by simpa using e
    simp only [laidL, List.lookup, hne] at hl
    cases hl
theorem heap_size {W : World} (h : W.ShapedOpen Tryz.prog) : Tryz.prog.globals.size ≤ W.heap.size := by
  obtain ⟨o, _, ho, _⟩ := h.2 _ (Nat.le_refl _) (of_decide_eq_true (by kernel_rfl))
  exact Nat.le_of_lt (Array.getElem?_eq_some_iff.1 ho).1
set_option maxRecDepth 100000 in
theorem lifted (os : Os) (started : os.Started) (H : Type) (enc : TypeId × Value → H) :
    ReturnsInHanded {} Tryz.checked os 5 .any (fun w args => (Rows.planStagesSpec.pre enc Tryz.prog Tryz.f5 Rows.planStagesRow.domain false w args ∧ laidMetH Tryz.prog Rows.planStagesRow.laid w) ∧ sizedMet enc Tryz.prog Tryz.f5 (OpenSpec.ofChange Rows.planStagesSpec) false w args)
      (Rows.planStagesSpec.post enc Tryz.prog Tryz.f5 false true false false) := by
  refine handed_of (C := Tryz.checked) (X := fun w _ => laidMetH Tryz.prog Rows.planStagesRow.laid w) (fun _ _ _ hh h => h.of_heap hh) own started (by kernel_rfl) Tryz.func5
    (ChangeSpec.witness_shaped (enc := enc) (C := Tryz.checked) (os := os) (X := fun w _ => laidMetH Tryz.prog Rows.planStagesRow.laid w) false (World.laidAll Tryz.prog os Rows.planStagesRow.laid) #[.int .i64 0, .int .i64 0] 8 (World.laidAll_os _ _ _)
      (World.shaped_of_ZipB (by kernel_rfl) (by kernel_rfl)) (by kernel_rfl) (by kernel_rfl) (by kernel_rfl)
      (by rw [MakeChecks.laidMetH_plain _ _ _ (by kernel_rfl)]; exact laidMet_laidAll _ (by kernel_rfl) (by kernel_rfl))) ?_
  intro W base args ds gs before hval0 hW hL hsh
  have hW' := hW
  obtain ⟨p, q, hA0, hV, rfl, _, _⟩ := hW
  have hA : DataW.TrodAll enc Tryz.prog W 0 (fun _ => true) true Tryz.f5.params.toList args.toList ds p := hA0
  rw [Tryz.params5] at hA
  obtain ⟨u1, u2, d1, d2, p1, p2, rfl, rfl, rfl, hd1, hd2⟩ := trodAll_two hA
  obtain ⟨x1, rfl, rfl, rfl, wf1⟩ := open_int Tryz.underlying3 (hval0 0 _ _ (by rw [← Array.getElem?_toList, Tryz.params5]; rfl) rfl) hd1
  obtain ⟨x2, rfl, rfl, rfl, wf2⟩ := open_int Tryz.underlying3 (hval0 1 _ _ (by rw [← Array.getElem?_toList, Tryz.params5]; rfl) rfl) hd2
  obtain ⟨rfl, rfl⟩ := trodVars_none hV
  obtain ⟨m, hm⟩ := Tryz.laysM143.s1_3 W hsh
  refine (law_ok hm (laid_of (heap_size hsh) hL) x1 x2).mono fun e W' ⟨he, hg⟩ => ?_
  subst he
  exact ⟨_, rfl, post_of_grew hW' (fun _ _ _ => trodAll_mk1 (shut_bool Tryz.underlying4 _)) (fun _ => by rw [Tryz.params5]; exact (trodAll_cons_mk (shut_int Tryz.underlying3 wf1) (trodAll_cons_mk (shut_int Tryz.underlying3 wf2) trodAll_mk0))) (fun _ => rfl) hg⟩
end Go.Proofs.YtndjamcbdcjleaaGreatDoor

/- PlanFuel answers true, and nothing that was there is turned: the contract, out of the evaluator's runs, and its lift to the row's form. Conditions: those of the given row (the listed variables read as listed). -/
import Derived.Test.YtndjamcbdcjleaaGreatDoorPfRA
import Derived.Test.YtndjamcbdcjleaaGreatDoorPfFX0
import Derived.Test.YtndjamcbdcjleaaGreatDoorPfFX1
import Derived.Test.YtndjamcbdcjleaaGreatDoorPfFX2
import Derived.Test.YtndjamcbdcjleaaGreatDoorPfFX3
import Derived.Test.YtndjamcbdcjleaaGreatDoorPfFX4
import Derived.Test.YtndjamcbdcjleaaGreatDoorPfFX5
import Derived.Test.YtndjamcbdcjleaaGreatDoorPfFX6
import Derived.Test.YtndjamcbdcjleaaGreatDoorPfFX7
import Derived.Test.YtndjamcbdcjleaaGreatDoorPfRM0
import Derived.Test.YtndjamcbdcjleaaGreatDoorPfRM1
import Derived.Test.YtndjamcbdcjleaaGreatDoorPfRM2
import Derived.Test.YtndjamcbdcjleaaGreatDoorPfRM3
import Derived.Test.YtndjamcbdcjleaaGreatDoorPfRM4
import Derived.Test.YtndjamcbdcjleaaGreatDoorPfRM5
import Derived.Test.YtndjamcbdcjleaaGreatDoorPfRM6
import Derived.Test.YtndjamcbdcjleaaGreatDoorPfRM7
import Derived.Test.YtndjamcbdcjleaaGreatDoorPfRM8
import Derived.Test.YtndjamcbdcjleaaGreatDoorPfRM9
import Derived.Test.YtndjamcbdcjleaaGreatDoorPfRM10
import Derived.Test.YtndjamcbdcjleaaGreatDoorPfRM11
import Derived.Test.YtndjamcbdcjleaaGreatDoorPfRM12
import Derived.Test.YtndjamcbdcjleaaGreatDoorPfRM13
import Derived.Test.YtndjamcbdcjleaaGreatDoorPfRM14
import Derived.Test.YtndjamcbdcjleaaGreatDoorPfRM15
import Derived.Test.YtndjamcbdcjleaaGreatDoorPfRM16
import Derived.Test.YtndjamcbdcjleaaGreatDoorPfRM17
import Derived.Test.YtndjamcbdcjleaaGreatDoorPfRM18
import Derived.Test.YtndjamcbdcjleaaGreatDoorPfRM19
import Derived.Test.YtndjamcbdcjleaaGreatDoorPfRM20
import Derived.Test.YtndjamcbdcjleaaGreatDoorPfRM21
import Derived.Test.YtndjamcbdcjleaaGreatDoorPfRM22
import Derived.Test.YtndjamcbdcjleaaGreatDoorPfRM23
import Derived.Test.YtndjamcbdcjleaaGreatDoorPfRM24
import Derived.Test.YtndjamcbdcjleaaGreatDoorPfRM25
import Derived.Test.YtndjamcbdcjleaaGreatDoorPfRM26
import Derived.Test.YtndjamcbdcjleaaGreatDoorPfRM27
import Derived.Test.YtndjamcbdcjleaaGreatDoorPfRM28
import Derived.Test.YtndjamcbdcjleaaGreatDoorPfRM29
import Derived.Test.YtndjamcbdcjleaaGreatDoorRows
import Derived.SevenTiedAt
import Derived.Stop.Joined
namespace Go.Proofs.YtndjamcbdcjleaaGreatDoor
open Go.ChangeShapes Go.WideShapes Go.ChangeAt Go.RowKit Go.VM
theorem mixed : Tryz.prog.follows .mixedOrders = true := by kernel_rfl
theorem g64 : Tryz.prog.globals.size ≤ 64 := by decide +kernel
theorem row252 : Extern.findNext Tryz.f252 = none ∧ Extern.find Tryz.f252 = some Extern.BytealgIndexByte.indexByte := ⟨by kernel_rfl, by kernel_rfl⟩
theorem vm252 : vmRow 4 Tryz.f252 = some Extern.BytealgIndexByte.indexByte := rfl
theorem row236 : Extern.findNext Tryz.f236 = none ∧ Extern.find Tryz.f236 = some (Extern.BytealgMakeNoZero.makeNoZero Tryz.f236.params Tryz.f236.resultTypes) := ⟨by kernel_rfl, by kernel_rfl⟩
theorem vm236 : vmRow 5 Tryz.f236 = some (Extern.BytealgMakeNoZero.makeNoZero Tryz.f236.params Tryz.f236.resultTypes) := rfl
theorem row257 : Extern.findNext Tryz.f257 = none ∧ Extern.find Tryz.f257 = some Extern.MathFloatBits.float64bits := ⟨by kernel_rfl, by kernel_rfl⟩
theorem vm257 : vmRow 1 Tryz.f257 = some Extern.MathFloatBits.float64bits := rfl
theorem row222 : Extern.findNext Tryz.f222 = none ∧ Extern.find Tryz.f222 = some Extern.MathFloatBits.float64frombits := ⟨by kernel_rfl, by kernel_rfl⟩
theorem vm222 : vmRow 2 Tryz.f222 = some Extern.MathFloatBits.float64frombits := rfl
theorem row235 : Extern.findNext Tryz.f235 = none ∧ Extern.find Tryz.f235 = some Extern.AbiNoEscape.same := ⟨by kernel_rfl, by kernel_rfl⟩
theorem vm235 : vmRow 3 Tryz.f235 = some Extern.AbiNoEscape.same := rfl
theorem row290 : Extern.findNext Tryz.f290 = none ∧ Extern.find Tryz.f290 = some (Extern.MathFloor.toIntegral "math.archTrunc" .zero) := ⟨by kernel_rfl, by kernel_rfl⟩
theorem vm290 : vmRow 6 Tryz.f290 = some (Extern.MathFloor.toIntegral "math.archTrunc" .zero) := rfl
theorem rows_ok (H : Hook) (hH : H.exts = lookN extL) : @RowsOk H Tryz.prog := by
  refine @rowsOk_of H _ extL (fun f => by show H.exts f = _; rw [hH]) fun f k hm fd hp impl hv => ?_
  simp only [extL, List.mem_cons, List.not_mem_nil, or_false, Prod.mk.injEq] at hm
  rcases hm with ⟨rfl, rfl⟩ | ⟨rfl, rfl⟩ | ⟨rfl, rfl⟩ | ⟨rfl, rfl⟩ | ⟨rfl, rfl⟩ | ⟨rfl, rfl⟩
  · rw [Tryz.func252] at hp; cases hp; rw [vm252] at hv; cases hv; exact row252
  · rw [Tryz.func236] at hp; cases hp; rw [vm236] at hv; cases hv; exact row236
  · rw [Tryz.func257] at hp; cases hp; rw [vm257] at hv; cases hv; exact row257
  · rw [Tryz.func222] at hp; cases hp; rw [vm222] at hv; cases hv; exact row222
  · rw [Tryz.func235] at hp; cases hp; rw [vm235] at hv; cases hv; exact row235
  · rw [Tryz.func290] at hp; cases hp; rw [vm290] at hv; cases hv; exact row290
theorem body6 : ∃ c, bodyOf Tryz.prog 6 = some c := body_of Tryz.func6 (by kernel_rfl) (by kernel_rfl)
theorem body13 : ∃ c, bodyOf Tryz.prog 13 = some c := body_of Tryz.func13 (by kernel_rfl) (by kernel_rfl)
theorem body114 : ∃ c, bodyOf Tryz.prog 114 = some c := body_of Tryz.func114 (by kernel_rfl) (by kernel_rfl)
theorem body172 : ∃ c, bodyOf Tryz.prog 172 = some c := body_of Tryz.func172 (by kernel_rfl) (by kernel_rfl)
theorem body77 : ∃ c, bodyOf Tryz.prog 77 = some c := body_of Tryz.func77 (by kernel_rfl) (by kernel_rfl)
theorem gm_lt : 0 < Tryz.prog.globals.size := by decide +kernel
section
variable {b : Base} {W : World} {m : Int}
theorem sat_ix [Hook] (hm : b.w.cell? ⟨0, 0, none⟩ = some (.int .i64 m)) (hk : b.Keeps Tryz.prog laidL tot) : Sat Tryz.prog b 114 1 := fun s sub w _ ho hl => Any.strings_Index { Tryz.laysM143 with } s sub m w hl (cell_keeps hk hm gm_lt ho)
theorem sat_ixl [Hook] (hm : b.w.cell? ⟨0, 0, none⟩ = some (.int .i64 m)) (hk : b.Keeps Tryz.prog laidL tot) : Sat Tryz.prog b 172 1 := fun s sub w _ ho hl => Any.stringslite_Index { Tryz.laysM219 with } s sub m w hl (cell_keeps hk hm gm_lt ho)
theorem sat_co [Hook] (hm : b.w.cell? ⟨0, 0, none⟩ = some (.int .i64 m)) (hk : b.Keeps Tryz.prog laidL tot) : Sat Tryz.prog b 77 2 := fun s sub w _ ho hl => Any.strings_Contains { Tryz.laysM144 with } s sub m w hl (cell_keeps hk hm gm_lt ho)
theorem sum0 (hm : b.w.cell? ⟨0, 0, none⟩ = some (.int .i64 m)) (hk : b.Keeps Tryz.prog laidL tot) : @SumOk Tryz.prog hook0 b :=
  @sumOk_of hook0 _ _ (@sums_of hook0 _ b sumL rfl (List.forall_mem_cons.2 ⟨body114, (List.forall_mem_cons.2 ⟨body172, (List.forall_mem_cons.2 ⟨body77, (by intro q h; cases h)⟩)⟩)⟩) (List.forall_mem_cons.2 ⟨@sat_ix b m hook0 hm hk, (List.forall_mem_cons.2 ⟨@sat_ixl b m hook0 hm hk, (List.forall_mem_cons.2 ⟨@sat_co b m hook0 hm hk, (by intro q h; cases h)⟩)⟩)⟩))
theorem sumA (hm : b.w.cell? ⟨0, 0, none⟩ = some (.int .i64 m)) (hk : b.Keeps Tryz.prog laidL tot) : @SumOk Tryz.prog hookA b :=
  @sumOk_of hookA _ _ (@sums_of hookA _ b sumLA rfl (List.forall_mem_cons.2 ⟨body114, (List.forall_mem_cons.2 ⟨body172, (List.forall_mem_cons.2 ⟨body77, (by intro q h; cases h)⟩)⟩)⟩) (List.forall_mem_cons.2 ⟨@sat_ix b m hookA hm hk, (List.forall_mem_cons.2 ⟨@sat_ixl b m hookA hm hk, (List.forall_mem_cons.2 ⟨@sat_co b m hookA hm hk, (by intro q h; cases h)⟩)⟩)⟩))
/-- 'awake' answers true, in whatever world -/
theorem awake_ok (hm : W.cell? ⟨0, 0, none⟩ = some (.int .i64 m)) (hL : LaidOk Tryz.prog laidL tot W) : Calls Tryz.prog 6 #[] W fun e w' => e = .returned (.bool true) ∧ Grew W w' :=
  @truth_of hookA _ (rows_ok hookA rfl) mixed g64 laidL tot 6 [] [] W (sumA (b := Base.at W _) hm (.of_at hL)) hL .nil _ awake_run
theorem sat_aw [Hook] (hm : b.w.cell? ⟨0, 0, none⟩ = some (.int .i64 m)) (hk : b.Keeps Tryz.prog laidL tot) : Sat Tryz.prog b 6 3 := fun _ hs ho => awake_ok (cell_keeps hk hm gm_lt ho) (hk.world hs ho)
theorem faces_ok : ∀ r ∈ faceRows, @rowRun hookA Tryz.prog laidL 13 key4 r = true := (List.forall_mem_cons.2 ⟨face_run0, (List.forall_mem_cons.2 ⟨face_run1, (List.forall_mem_cons.2 ⟨face_run2, (List.forall_mem_cons.2 ⟨face_run3, (List.forall_mem_cons.2 ⟨face_run4, (List.forall_mem_cons.2 ⟨face_run5, (List.forall_mem_cons.2 ⟨face_run6, (List.forall_mem_cons.2 ⟨face_run7, (List.forall_mem_cons.2 ⟨face_run8, (List.forall_mem_cons.2 ⟨face_run9, (List.forall_mem_cons.2 ⟨face_run10, (List.forall_mem_cons.2 ⟨face_run11, (List.forall_mem_cons.2 ⟨face_run12, (List.forall_mem_cons.2 ⟨face_run13, (List.forall_mem_cons.2 ⟨face_run14, (List.forall_mem_cons.2 ⟨face_run15, (List.forall_mem_cons.2 ⟨face_run16, (List.forall_mem_cons.2 ⟨face_run17, (List.forall_mem_cons.2 ⟨face_run18, (List.forall_mem_cons.2 ⟨face_run19, (List.forall_mem_cons.2 ⟨face_run20, (List.forall_mem_cons.2 ⟨face_run21, (List.forall_mem_cons.2 ⟨face_run22, (List.forall_mem_cons.2 ⟨face_run23, (List.forall_mem_cons.2 ⟨face_run24, (List.forall_mem_cons.2 ⟨face_run25, (List.forall_mem_cons.2 ⟨face_run26, (List.forall_mem_cons.2 ⟨face_run27, (List.forall_mem_cons.2 ⟨face_run28, (List.forall_mem_cons.2 ⟨face_run29, (List.forall_mem_cons.2 ⟨face_run30, (List.forall_mem_cons.2 ⟨face_run31, (List.forall_mem_cons.2 ⟨face_run32, (List.forall_mem_cons.2 ⟨face_run33, (List.forall_mem_cons.2 ⟨face_run34, (List.forall_mem_cons.2 ⟨face_run35, (List.forall_mem_cons.2 ⟨face_run36, (List.forall_mem_cons.2 ⟨face_run37, (List.forall_mem_cons.2 ⟨face_run38, (List.forall_mem_cons.2 ⟨face_run39, (List.forall_mem_cons.2 ⟨face_run40, (List.forall_mem_cons.2 ⟨face_run41, (List.forall_mem_cons.2 ⟨face_run42, (List.forall_mem_cons.2 ⟨face_run43, (List.forall_mem_cons.2 ⟨face_run44, (List.forall_mem_cons.2 ⟨face_run45, (List.forall_mem_cons.2 ⟨face_run46, (List.forall_mem_cons.2 ⟨face_run47, (List.forall_mem_cons.2 ⟨face_run48, (List.forall_mem_cons.2 ⟨face_run49, (List.forall_mem_cons.2 ⟨face_run50, (List.forall_mem_cons.2 ⟨face_run51, (List.forall_mem_cons.2 ⟨face_run52, (List.forall_mem_cons.2 ⟨face_run53, (List.forall_mem_cons.2 ⟨face_run54, (List.forall_mem_cons.2 ⟨face_run55, (List.forall_mem_cons.2 ⟨face_run56, (List.forall_mem_cons.2 ⟨face_run57, (List.forall_mem_cons.2 ⟨face_run58, (List.forall_mem_cons.2 ⟨face_run59, (List.forall_mem_cons.2 ⟨face_run60, (List.forall_mem_cons.2 ⟨face_run61, (List.forall_mem_cons.2 ⟨face_run62, (List.forall_mem_cons.2 ⟨face_run63, (by intro p h; cases h)⟩)⟩)⟩)⟩)⟩)⟩)⟩)⟩)⟩)⟩)⟩)⟩)⟩)⟩)⟩)⟩)⟩)⟩)⟩)⟩)⟩)⟩)⟩)⟩)⟩)⟩)⟩)⟩)⟩)⟩)⟩)⟩)⟩)⟩)⟩)⟩)⟩)⟩)⟩)⟩)⟩)⟩)⟩)⟩)⟩)⟩)⟩)⟩)⟩)⟩)⟩)⟩)⟩)⟩)⟩)⟩)⟩)⟩)⟩)⟩)⟩)⟩)⟩)⟩)
theorem sat_face (hm : b.w.cell? ⟨0, 0, none⟩ = some (.int .i64 m)) (hk : b.Keeps Tryz.prog laidL tot) : @Sat hookM Tryz.prog b 13 4 := by
  refine ⟨PrimOk.none (k := 0), fun _ r hr => ?_⟩
  have hr : r ∈ faceRows := hr
  exact ⟨@row_ok hookA _ laidL 13 key4 r (faces_ok r hr), fun _ _ _ hrel hs ho => @memo_of hookA _ (rows_ok hookA rfl) mixed g64 laidL tot 13 r key4 _ (sumA (b := Base.at _ _) (cell_keeps hk hm gm_lt ho) (.of_at (hk.world hs ho))) (hk.world hs ho) _ _ hrel (faces_ok r hr)⟩
theorem sumM (hm : b.w.cell? ⟨0, 0, none⟩ = some (.int .i64 m)) (hk : b.Keeps Tryz.prog laidL tot) : @SumOk Tryz.prog hookM b :=
  @sumOk_of hookM _ _ (@sums_of hookM _ b sumLM rfl (List.forall_mem_cons.2 ⟨body6, (List.forall_mem_cons.2 ⟨body13, (List.forall_mem_cons.2 ⟨body114, (List.forall_mem_cons.2 ⟨body172, (List.forall_mem_cons.2 ⟨body77, (by intro q h; cases h)⟩)⟩)⟩)⟩)⟩) (List.forall_mem_cons.2 ⟨@sat_aw b m hookM hm hk, (List.forall_mem_cons.2 ⟨sat_face hm hk, (List.forall_mem_cons.2 ⟨@sat_ix b m hookM hm hk, (List.forall_mem_cons.2 ⟨@sat_ixl b m hookM hm hk, (List.forall_mem_cons.2 ⟨@sat_co b m hookM hm hk, (by intro q h; cases h)⟩)⟩)⟩)⟩)⟩))
/-- the law answers true, in whatever world -/
theorem law_ok (hm : W.cell? ⟨0, 0, none⟩ = some (.int .i64 m)) (hL : LaidOk Tryz.prog laidL tot W) (x1 : Int) (x2 : Int) : Calls Tryz.prog 4 ⟨[.int .i64 x1, .int .i64 x2]⟩ W fun e w' => e = .returned (.bool true) ∧ Grew W w' := by
  have key : ∀ (lo hi j : Nat) (av : List AV), lo ≤ j ∧ j < hi → RelL ((startRho tot Tryz.prog.globals.size).add keyI ⟨0, j, 0⟩) av [.int .i64 x1, .int .i64 x2] → @runF Tryz.prog hookM isTrue 500000 (startStI Tryz.prog laidL 4 av keyI lo hi (keyN 4096)) = true → Calls Tryz.prog 4 ⟨[.int .i64 x1, .int .i64 x2]⟩ W fun e w' => e = .returned (.bool true) ∧ Grew W w' :=
    fun lo hi j av hj hr hrun => @truth_ivl hookM _ (rows_ok hookM rfl) mixed g64 laidL tot 4 av [.int .i64 x1, .int .i64 x2] W (sumM (b := Base.at W _) hm (.of_at hL)) hL (Nat.lt_of_lt_of_le (by decide +kernel : 0 < Tryz.prog.globals.size) hL.1) keyI lo hi j (keyN 4096) hj hr _ hrun
  obtain ⟨j1, l1, h1⟩ := red_and 63 (by decide) x1
  obtain ⟨j2, l2, h2⟩ := red_rem 1200 (by decide) x2
  have w0 := chunk_w0
  have w1 := allFrom_join w0 chunk_w1
  have w2 := allFrom_join w1 chunk_w2
  have w3 := allFrom_join w2 chunk_w3
  have w4 := allFrom_join w3 chunk_w4
  have w5 := allFrom_join w4 chunk_w5
  have w6 := allFrom_join w5 chunk_w6
  have w7 := allFrom_join w6 chunk_w7
  have w8 := allFrom_join w7 chunk_w8
  have w9 := allFrom_join w8 chunk_w9
  have w10 := allFrom_join w9 chunk_w10
  have w11 := allFrom_join w10 chunk_w11
  have w12 := allFrom_join w11 chunk_w12
  have w13 := allFrom_join w12 chunk_w13
  have w14 := allFrom_join w13 chunk_w14
  have w15 := allFrom_join w14 chunk_w15
  have w16 := allFrom_join w15 chunk_w16
  have w17 := allFrom_join w16 chunk_w17
  have w18 := allFrom_join w17 chunk_w18
  have w19 := allFrom_join w18 chunk_w19
  have w20 := allFrom_join w19 chunk_w20
  have w21 := allFrom_join w20 chunk_w21
  have w22 := allFrom_join w21 chunk_w22
  have w23 := allFrom_join w22 chunk_w23
  have w24 := allFrom_join w23 chunk_w24
  have w25 := allFrom_join w24 chunk_w25
  have w26 := allFrom_join w25 chunk_w26
  have w27 := allFrom_join w26 chunk_w27
  have w28 := allFrom_join w27 chunk_w28
  have w29 := allFrom_join w28 chunk_w29
  have w30 := allFrom_join w29 chunk_w30
  have w31 := allFrom_join w30 chunk_w31
  have w32 := allFrom_join w31 chunk_w32
  have w33 := allFrom_join w32 chunk_w33
  have w34 := allFrom_join w33 chunk_w34
  have w35 := allFrom_join w34 chunk_w35
  have w36 := allFrom_join w35 chunk_w36
  have w37 := allFrom_join w36 chunk_w37
  have w38 := allFrom_join w37 chunk_w38
  have w39 := allFrom_join w38 chunk_w39
  have w40 := allFrom_join w39 chunk_w40
  have a0 := chunk_a41
  have a1 := allFrom_join a0 chunk_a42
  have a2 := allFrom_join a1 chunk_a43
  have a3 := allFrom_join a2 chunk_a44
  have a4 := allFrom_join a3 chunk_a45
  have a5 := allFrom_join a4 chunk_a46
  have a6 := allFrom_join a5 chunk_a47
  have a7 := allFrom_join a6 chunk_a48
  have a8 := allFrom_join a7 chunk_a49
  have a9 := allFrom_join a8 chunk_a50
  have a10 := allFrom_join a9 chunk_a51
  have a11 := allFrom_join a10 chunk_a52
  have a12 := allFrom_join a11 chunk_a53
  have a13 := allFrom_join a12 chunk_a54
  have a14 := allFrom_join a13 chunk_a55
  have a15 := allFrom_join a14 chunk_a56
  have a16 := allFrom_join a15 chunk_a57
  have a17 := allFrom_join a16 chunk_a58
  have a18 := allFrom_join a17 chunk_a59
  have a19 := allFrom_join a18 chunk_a60
  have a20 := allFrom_join a19 chunk_a61
  have a21 := allFrom_join a20 chunk_a62
  have a22 := allFrom_join a21 chunk_a63
  have b0 := chunk_b41
  have b1 := allFrom_join b0 chunk_b42
  have b2 := allFrom_join b1 chunk_b43
  have b3 := allFrom_join b2 chunk_b44
  have b4 := allFrom_join b3 chunk_b45
  have b5 := allFrom_join b4 chunk_b46
  have b6 := allFrom_join b5 chunk_b47
  have b7 := allFrom_join b6 chunk_b48
  have b8 := allFrom_join b7 chunk_b49
  have b9 := allFrom_join b8 chunk_b50
  have b10 := allFrom_join b9 chunk_b51
  have b11 := allFrom_join b10 chunk_b52
  have b12 := allFrom_join b11 chunk_b53
  have b13 := allFrom_join b12 chunk_b54
  have b14 := allFrom_join b13 chunk_b55
  have b15 := allFrom_join b14 chunk_b56
  have b16 := allFrom_join b15 chunk_b57
  have b17 := allFrom_join b16 chunk_b58
  have b18 := allFrom_join b17 chunk_b59
  have b19 := allFrom_join b18 chunk_b60
  have b20 := allFrom_join b19 chunk_b61
  have b21 := allFrom_join b20 chunk_b62
  have b22 := allFrom_join b21 chunk_b63
  by_cases hc : j1 < 41
  · exact key 0 1200 j2 [.red .i64 true 63 j1, .reds .i64 false 1200 keyI] ⟨Nat.zero_le _, l2⟩ (.cons _ _ _ _ (.red _ _ _ _ _ h1) (.cons _ _ _ _ (.reds _ _ _ _ _ _ (Rho.add_same _ _ _) h2) .nil)) (allFrom_spec w40 j1 (Nat.zero_le _) (by omega))
  by_cases hd : j2 < 350
  · exact key 0 350 j2 [.red .i64 true 63 j1, .reds .i64 false 1200 keyI] ⟨Nat.zero_le _, hd⟩ (.cons _ _ _ _ (.red _ _ _ _ _ h1) (.cons _ _ _ _ (.reds _ _ _ _ _ _ (Rho.add_same _ _ _) h2) .nil)) (allFrom_spec a22 j1 (by omega) (by omega))
  exact key 350 1200 j2 [.red .i64 true 63 j1, .reds .i64 false 1200 keyI] ⟨by omega, l2⟩ (.cons _ _ _ _ (.red _ _ _ _ _ h1) (.cons _ _ _ _ (.reds _ _ _ _ _ _ (Rho.add_same _ _ _) h2) .nil)) (allFrom_spec b22 j1 (by omega) (by omega))
end
theorem own : ownKnob Tryz.prog.godebug = none := by kernel_rfl
theorem gSpace : Tryz.prog.globalNamed "strings.asciiSpace" = some 1 := by kernel_rfl
theorem tSpace : (Tryz.prog.globals[1]?).map (·.type) = some 260 := by kernel_rfl
theorem lSpace : spaceZ.length = 256 := by kernel_rfl
theorem dSpace : (Rows.laid_strings_asciiSpace : DataW Unit) = .agg (spaceZ.map fun z => .lit (.int .u8 z)) := by kernel_rfl
theorem laid_of {W : World} (hs : Tryz.prog.globals.size ≤ W.heap.size) (h : laidMetH Tryz.prog Rows.planFuelRow.laid W) : LaidOk Tryz.prog laidL tot W := by
  rw [MakeChecks.laidMetH_plain _ _ _ (by kernel_rfl)] at h
  obtain ⟨ps, ⟨_, _, _, _, _, _, _, _, _, _, ⟨_, _, _, _, _, _, _, _, _, _, ⟨g, t, cs, fuel, p, q, hg, ht, hv, hd, _, _⟩, _⟩, _⟩, _, _⟩ := h
  obtain rfl := Option.some.inj (gSpace.symm.trans hg)
  obtain rfl := Option.some.inj (tSpace.symm.trans ht)
  rw [dSpace] at hd
  have hT := table_of gSpace hv Tryz.underlying260 Tryz.underlying5 (by kernel_rfl) (by kernel_rfl) lSpace hd
  refine ⟨hs, fun g o _ hl N ρ => ?_⟩
  by_cases e : g = 1
  · subst e
    obtain rfl : AObj.fixed 0 (spaceZ.map fun z => AV.int .u8 z) = o := Option.some.inj hl
    exact hT N ρ
  · have hne : (g == 1) = false := by simpa using e
    simp only [laidL, List.lookup, hne] at hl
    cases hl
theorem heap_size {W : World} (h : W.ShapedOpen Tryz.prog) : Tryz.prog.globals.size ≤ W.heap.size := by
  obtain ⟨o, _, ho, _⟩ := h.2 _ (Nat.le_refl _) (of_decide_eq_true (by kernel_rfl))
  exact Nat.le_of_lt (Array.getElem?_eq_some_iff.1 ho).1
set_option maxRecDepth 100000 in
theorem lifted (os : Os) (started : os.Started) (H : Type) (enc : TypeId × Value → H) :
    ReturnsInHanded {} Tryz.checked os 4 .any (fun w args => (Rows.planFuelSpec.pre enc Tryz.prog Tryz.f4 Rows.planFuelRow.domain false w args ∧ laidMetH Tryz.prog Rows.planFuelRow.laid w) ∧ sizedMet enc Tryz.prog Tryz.f4 (OpenSpec.ofChange Rows.planFuelSpec) false w args)
      (Rows.planFuelSpec.post enc Tryz.prog Tryz.f4 false true false false) := by
  refine handed_of (C := Tryz.checked) (X := fun w _ => laidMetH Tryz.prog Rows.planFuelRow.laid w) (fun _ _ _ hh h => h.of_heap hh) own started (by kernel_rfl) Tryz.func4
    (ChangeSpec.witness_shaped (enc := enc) (C := Tryz.checked) (os := os) (X := fun w _ => laidMetH Tryz.prog Rows.planFuelRow.laid w) false (World.laidAll Tryz.prog os Rows.planFuelRow.laid) #[.int .i64 0, .int .i64 0] 8 (World.laidAll_os _ _ _)
      (World.shaped_of_ZipB (by kernel_rfl) (by kernel_rfl)) (by kernel_rfl) (by kernel_rfl) (by kernel_rfl)
      (by rw [MakeChecks.laidMetH_plain _ _ _ (by kernel_rfl)]; exact laidMet_laidAll _ (by kernel_rfl) (by kernel_rfl))) ?_
  intro W base args ds gs before hval0 hW hL hsh
  have hW' := hW
  obtain ⟨p, q, hA0, hV, rfl, _, _⟩ := hW
  have hA : DataW.TrodAll enc Tryz.prog W 0 (fun _ => true) true Tryz.f4.params.toList args.toList ds p := hA0
  rw [Tryz.params4] at hA
  obtain ⟨u1, u2, d1, d2, p1, p2, rfl, rfl, rfl, hd1, hd2⟩ := trodAll_two hA
  obtain ⟨x1, rfl, rfl, rfl, wf1⟩ := open_int Tryz.underlying3 (hval0 0 _ _ (by rw [← Array.getElem?_toList, Tryz.params4]; rfl) rfl) hd1
  obtain ⟨x2, rfl, rfl, rfl, wf2⟩ := open_int Tryz.underlying3 (hval0 1 _ _ (by rw [← Array.getElem?_toList, Tryz.params4]; rfl) rfl) hd2
  obtain ⟨rfl, rfl⟩ := trodVars_none hV
  obtain ⟨m, hm⟩ := Tryz.laysM143.s1_3 W hsh
  refine (law_ok hm (laid_of (heap_size hsh) hL) x1 x2).mono fun e W' ⟨he, hg⟩ => ?_
  subst he
  exact ⟨_, rfl, post_of_grew hW' (fun _ _ _ => trodAll_mk1 (shut_bool Tryz.underlying4 _)) (fun _ => by rw [Tryz.params4]; exact (trodAll_cons_mk (shut_int Tryz.underlying3 wf1) (trodAll_cons_mk (shut_int Tryz.underlying3 wf2) trodAll_mk0))) (fun _ => rfl) hg⟩
end Go.Proofs.YtndjamcbdcjleaaGreatDoor

/- ModelThrough answers true, and nothing that was there is turned: the contract, out of the evaluator's runs, and its lift to the row's form. Conditions: those of the given row (the listed variables read as listed). -/
import Derived.Test.YtoniabaeidgglaaGreatDoorThRA
import Derived.Test.YtoniabaeidgglaaGreatDoorThMT
import Derived.Test.YtoniabaeidgglaaGreatDoorThFX0
import Derived.Test.YtoniabaeidgglaaGreatDoorThRM0
import Derived.Test.YtoniabaeidgglaaGreatDoorThRM1
import Derived.Test.YtoniabaeidgglaaGreatDoorThRM2
import Derived.Test.YtoniabaeidgglaaGreatDoorThRM3
import Derived.Test.YtoniabaeidgglaaGreatDoorThRM4
import Derived.Test.YtoniabaeidgglaaGreatDoorThRM5
import Derived.Test.YtoniabaeidgglaaGreatDoorThRM6
import Derived.Test.YtoniabaeidgglaaGreatDoorThRM7
import Derived.Test.YtoniabaeidgglaaGreatDoorThRM8
import Derived.Test.YtoniabaeidgglaaGreatDoorThRM9
import Derived.Test.YtoniabaeidgglaaGreatDoorThRM10
import Derived.Test.YtoniabaeidgglaaGreatDoorThRM11
import Derived.Test.YtoniabaeidgglaaGreatDoorThRM12
import Derived.Test.YtoniabaeidgglaaGreatDoorThRM13
import Derived.Test.YtoniabaeidgglaaGreatDoorThRM14
import Derived.Test.YtoniabaeidgglaaGreatDoorThRM15
import Derived.Test.YtoniabaeidgglaaGreatDoorThRM16
import Derived.Test.YtoniabaeidgglaaGreatDoorThRM17
import Derived.Test.YtoniabaeidgglaaGreatDoorThRM18
import Derived.Test.YtoniabaeidgglaaGreatDoorThRM19
import Derived.Test.YtoniabaeidgglaaGreatDoorThRM20
import Derived.Test.YtoniabaeidgglaaGreatDoorThRM21
import Derived.Test.YtoniabaeidgglaaGreatDoorRows
import Derived.SevenTiedAt
import Derived.Stop.Joined
namespace Go.Proofs.YtoniabaeidgglaaGreatDoor
open Go.ChangeShapes Go.WideShapes Go.ChangeAt Go.RowKit Go.VM
theorem mixed : Tryz.prog.follows .mixedOrders = true := by kernel_rfl
theorem g64 : Tryz.prog.globals.size ≤ 64 := by decide +kernel
theorem row323 : Extern.findNext Tryz.f323 = none ∧ Extern.find Tryz.f323 = some Extern.BytealgIndexByte.indexByte := ⟨by kernel_rfl, by kernel_rfl⟩
theorem vm323 : vmRow 4 Tryz.f323 = some Extern.BytealgIndexByte.indexByte := rfl
theorem row336 : Extern.findNext Tryz.f336 = none ∧ Extern.find Tryz.f336 = some (Extern.BytealgMakeNoZero.makeNoZero Tryz.f336.params Tryz.f336.resultTypes) := ⟨by kernel_rfl, by kernel_rfl⟩
theorem vm336 : vmRow 5 Tryz.f336 = some (Extern.BytealgMakeNoZero.makeNoZero Tryz.f336.params Tryz.f336.resultTypes) := rfl
theorem row369 : Extern.findNext Tryz.f369 = none ∧ Extern.find Tryz.f369 = some Extern.MathFloatBits.float64bits := ⟨by kernel_rfl, by kernel_rfl⟩
theorem vm369 : vmRow 1 Tryz.f369 = some Extern.MathFloatBits.float64bits := rfl
theorem row343 : Extern.findNext Tryz.f343 = none ∧ Extern.find Tryz.f343 = some Extern.MathFloatBits.float64frombits := ⟨by kernel_rfl, by kernel_rfl⟩
theorem vm343 : vmRow 2 Tryz.f343 = some Extern.MathFloatBits.float64frombits := rfl
theorem row268 : Extern.findNext Tryz.f268 = none ∧ Extern.find Tryz.f268 = some Extern.AbiNoEscape.same := ⟨by kernel_rfl, by kernel_rfl⟩
theorem vm268 : vmRow 3 Tryz.f268 = some Extern.AbiNoEscape.same := rfl
theorem row387 : Extern.findNext Tryz.f387 = none ∧ Extern.find Tryz.f387 = some (Extern.MathFloor.toIntegral "math.archTrunc" .zero) := ⟨by kernel_rfl, by kernel_rfl⟩
theorem vm387 : vmRow 6 Tryz.f387 = some (Extern.MathFloor.toIntegral "math.archTrunc" .zero) := rfl
theorem rows_ok (H : Hook) (hH : H.exts = lookN extL) : @RowsOk H Tryz.prog := by
  refine @rowsOk_of H _ extL (fun f => by show H.exts f = _; rw [hH]) fun f k hm fd hp impl hv => ?_
  simp only [extL, List.mem_cons, List.not_mem_nil, or_false, Prod.mk.injEq] at hm
  rcases hm with ⟨rfl, rfl⟩ | ⟨rfl, rfl⟩ | ⟨rfl, rfl⟩ | ⟨rfl, rfl⟩ | ⟨rfl, rfl⟩ | ⟨rfl, rfl⟩
  · rw [Tryz.func323] at hp; cases hp; rw [vm323] at hv; cases hv; exact row323
  · rw [Tryz.func336] at hp; cases hp; rw [vm336] at hv; cases hv; exact row336
  · rw [Tryz.func369] at hp; cases hp; rw [vm369] at hv; cases hv; exact row369
  · rw [Tryz.func343] at hp; cases hp; rw [vm343] at hv; cases hv; exact row343
  · rw [Tryz.func268] at hp; cases hp; rw [vm268] at hv; cases hv; exact row268
  · rw [Tryz.func387] at hp; cases hp; rw [vm387] at hv; cases hv; exact row387
theorem body4 : ∃ c, bodyOf Tryz.prog 4 = some c := body_of Tryz.func4 (by kernel_rfl) (by kernel_rfl)
theorem body5 : ∃ c, bodyOf Tryz.prog 5 = some c := body_of Tryz.func5 (by kernel_rfl) (by kernel_rfl)
theorem body109 : ∃ c, bodyOf Tryz.prog 109 = some c := body_of Tryz.func109 (by kernel_rfl) (by kernel_rfl)
theorem body47 : ∃ c, bodyOf Tryz.prog 47 = some c := body_of Tryz.func47 (by kernel_rfl) (by kernel_rfl)
theorem body292 : ∃ c, bodyOf Tryz.prog 292 = some c := body_of Tryz.func292 (by kernel_rfl) (by kernel_rfl)
theorem body265 : ∃ c, bodyOf Tryz.prog 265 = some c := body_of Tryz.func265 (by kernel_rfl) (by kernel_rfl)
theorem body311 : ∃ c, bodyOf Tryz.prog 311 = some c := body_of Tryz.func311 (by kernel_rfl) (by kernel_rfl)
theorem body189 : ∃ c, bodyOf Tryz.prog 189 = some c := body_of Tryz.func189 (by kernel_rfl) (by kernel_rfl)
theorem gm_lt : 0 < Tryz.prog.globals.size := by decide +kernel
section
variable {b : Base} {W : World} {m : Int}
theorem sat_ix [Hook] (hm : b.w.cell? ⟨0, 0, none⟩ = some (.int .i64 m)) (hk : b.Keeps Tryz.prog laidL tot) : Sat Tryz.prog b 265 1 := fun s sub w _ ho hl => Any.strings_Index { Tryz.laysM143 with } s sub m w hl (cell_keeps hk hm gm_lt ho)
theorem sat_ixl [Hook] (hm : b.w.cell? ⟨0, 0, none⟩ = some (.int .i64 m)) (hk : b.Keeps Tryz.prog laidL tot) : Sat Tryz.prog b 311 1 := fun s sub w _ ho hl => Any.stringslite_Index { Tryz.laysM219 with } s sub m w hl (cell_keeps hk hm gm_lt ho)
theorem sat_co [Hook] (hm : b.w.cell? ⟨0, 0, none⟩ = some (.int .i64 m)) (hk : b.Keeps Tryz.prog laidL tot) : Sat Tryz.prog b 189 2 := fun s sub w _ ho hl => Any.strings_Contains { Tryz.laysM144 with } s sub m w hl (cell_keeps hk hm gm_lt ho)
theorem sum0 (hm : b.w.cell? ⟨0, 0, none⟩ = some (.int .i64 m)) (hk : b.Keeps Tryz.prog laidL tot) : @SumOk Tryz.prog hook0 b :=
  @sumOk_of hook0 _ _ (@sums_of hook0 _ b sumL rfl (List.forall_mem_cons.2 ⟨body265, (List.forall_mem_cons.2 ⟨body311, (List.forall_mem_cons.2 ⟨body189, (by intro q h; cases h)⟩)⟩)⟩) (List.forall_mem_cons.2 ⟨@sat_ix b m hook0 hm hk, (List.forall_mem_cons.2 ⟨@sat_ixl b m hook0 hm hk, (List.forall_mem_cons.2 ⟨@sat_co b m hook0 hm hk, (by intro q h; cases h)⟩)⟩)⟩))
theorem sat_m0a (hm : b.w.cell? ⟨0, 0, none⟩ = some (.int .i64 m)) (hk : b.Keeps Tryz.prog laidL tot) : @Sat hookA Tryz.prog b 109 4 := ⟨PrimOk.none (k := 0), fun a r hr => ⟨@row_ok hook0 _ laidL 109 key0 r (tab0_ok a r hr), fun _ _ _ hrel hs ho => @memo_of hook0 _ (rows_ok hook0 rfl) mixed g64 laidL tot 109 r key0 _ (sum0 (b := Base.at _ _) (cell_keeps hk hm gm_lt ho) (.of_at (hk.world hs ho))) (hk.world hs ho) _ _ hrel (tab0_ok a r hr)⟩⟩
theorem sat_m0b (hm : b.w.cell? ⟨0, 0, none⟩ = some (.int .i64 m)) (hk : b.Keeps Tryz.prog laidL tot) : @Sat hookM Tryz.prog b 109 4 := ⟨PrimOk.none (k := 0), fun a r hr => ⟨@row_ok hook0 _ laidL 109 key0 r (tab0_ok a r hr), fun _ _ _ hrel hs ho => @memo_of hook0 _ (rows_ok hook0 rfl) mixed g64 laidL tot 109 r key0 _ (sum0 (b := Base.at _ _) (cell_keeps hk hm gm_lt ho) (.of_at (hk.world hs ho))) (hk.world hs ho) _ _ hrel (tab0_ok a r hr)⟩⟩
theorem sumA (hm : b.w.cell? ⟨0, 0, none⟩ = some (.int .i64 m)) (hk : b.Keeps Tryz.prog laidL tot) : @SumOk Tryz.prog hookA b :=
  @sumOk_of hookA _ _ (@sums_of hookA _ b sumLA rfl (List.forall_mem_cons.2 ⟨body109, (List.forall_mem_cons.2 ⟨body47, (List.forall_mem_cons.2 ⟨body292, (List.forall_mem_cons.2 ⟨body265, (List.forall_mem_cons.2 ⟨body311, (List.forall_mem_cons.2 ⟨body189, (by intro q h; cases h)⟩)⟩)⟩)⟩)⟩)⟩) (List.forall_mem_cons.2 ⟨sat_m0a hm hk, (List.forall_mem_cons.2 ⟨(⟨@sortedStr_ok Tryz.prog b 47 9 isItS (sortedAtS b), fun _ r hr => by cases hr⟩ : @Sat hookA Tryz.prog b 47 6), (List.forall_mem_cons.2 ⟨(⟨@repeatP_ok Tryz.prog b 292 (repeat_at b), fun _ r hr => by cases hr⟩ : @Sat hookA Tryz.prog b 292 7), (List.forall_mem_cons.2 ⟨@sat_ix b m hookA hm hk, (List.forall_mem_cons.2 ⟨@sat_ixl b m hookA hm hk, (List.forall_mem_cons.2 ⟨@sat_co b m hookA hm hk, (by intro q h; cases h)⟩)⟩)⟩)⟩)⟩)⟩))
/-- 'awake' answers true, in whatever world -/
theorem awake_ok (hm : W.cell? ⟨0, 0, none⟩ = some (.int .i64 m)) (hL : LaidOk Tryz.prog laidL tot W) : Calls Tryz.prog 4 #[] W fun e w' => e = .returned (.bool true) ∧ Grew W w' :=
  @truth_of hookA _ (rows_ok hookA rfl) mixed g64 laidL tot 4 [] [] W (sumA (b := Base.at W _) hm (.of_at hL)) hL .nil _ awake_run
theorem sat_aw [Hook] (hm : b.w.cell? ⟨0, 0, none⟩ = some (.int .i64 m)) (hk : b.Keeps Tryz.prog laidL tot) : Sat Tryz.prog b 4 3 := fun _ hs ho => awake_ok (cell_keeps hk hm gm_lt ho) (hk.world hs ho)
theorem faces_ok : ∀ r ∈ faceRows, @rowRun hookA Tryz.prog laidL 5 key4 r = true := (List.forall_mem_cons.2 ⟨face_run0, (by intro p h; cases h)⟩)
theorem sat_face (hm : b.w.cell? ⟨0, 0, none⟩ = some (.int .i64 m)) (hk : b.Keeps Tryz.prog laidL tot) : @Sat hookM Tryz.prog b 5 5 := by
  refine ⟨PrimOk.none (k := 1), fun _ r hr => ?_⟩
  have hr : r ∈ faceRows := hr
  exact ⟨@row_ok hookA _ laidL 5 key4 r (faces_ok r hr), fun _ _ _ hrel hs ho => @memo_of hookA _ (rows_ok hookA rfl) mixed g64 laidL tot 5 r key4 _ (sumA (b := Base.at _ _) (cell_keeps hk hm gm_lt ho) (.of_at (hk.world hs ho))) (hk.world hs ho) _ _ hrel (faces_ok r hr)⟩
theorem sumM (hm : b.w.cell? ⟨0, 0, none⟩ = some (.int .i64 m)) (hk : b.Keeps Tryz.prog laidL tot) : @SumOk Tryz.prog hookM b :=
  @sumOk_of hookM _ _ (@sums_of hookM _ b sumLM rfl (List.forall_mem_cons.2 ⟨body4, (List.forall_mem_cons.2 ⟨body5, (List.forall_mem_cons.2 ⟨body109, (List.forall_mem_cons.2 ⟨body47, (List.forall_mem_cons.2 ⟨body292, (List.forall_mem_cons.2 ⟨body265, (List.forall_mem_cons.2 ⟨body311, (List.forall_mem_cons.2 ⟨body189, (by intro q h; cases h)⟩)⟩)⟩)⟩)⟩)⟩)⟩)⟩) (List.forall_mem_cons.2 ⟨@sat_aw b m hookM hm hk, (List.forall_mem_cons.2 ⟨sat_face hm hk, (List.forall_mem_cons.2 ⟨sat_m0b hm hk, (List.forall_mem_cons.2 ⟨(⟨@sortedStr_ok Tryz.prog b 47 9 isItS (sortedAtS b), fun _ r hr => by cases hr⟩ : @Sat hookM Tryz.prog b 47 6), (List.forall_mem_cons.2 ⟨(⟨@repeatP_ok Tryz.prog b 292 (repeat_at b), fun _ r hr => by cases hr⟩ : @Sat hookM Tryz.prog b 292 7), (List.forall_mem_cons.2 ⟨@sat_ix b m hookM hm hk, (List.forall_mem_cons.2 ⟨@sat_ixl b m hookM hm hk, (List.forall_mem_cons.2 ⟨@sat_co b m hookM hm hk, (by intro q h; cases h)⟩)⟩)⟩)⟩)⟩)⟩)⟩)⟩))
/-- the law answers true, in whatever world -/
theorem law_ok (hm : W.cell? ⟨0, 0, none⟩ = some (.int .i64 m)) (hL : LaidOk Tryz.prog laidL tot W) (x1 : Int) (x2 : Int) : Calls Tryz.prog 3 ⟨[.int .i64 x1, .int .i64 x2]⟩ W fun e w' => e = .returned (.bool true) ∧ Grew W w' := by
  have key : ∀ av : List AV, RelL (startRho tot Tryz.prog.globals.size) av [.int .i64 x1, .int .i64 x2] → @runF Tryz.prog hookM isTrue 500000 (startSt Tryz.prog laidL 3 av) = true → Calls Tryz.prog 3 ⟨[.int .i64 x1, .int .i64 x2]⟩ W fun e w' => e = .returned (.bool true) ∧ Grew W w' :=
    fun av hr hrun => @truth_of hookM _ (rows_ok hookM rfl) mixed g64 laidL tot 3 av [.int .i64 x1, .int .i64 x2] W (sumM (b := Base.at W _) hm (.of_at hL)) hL hr _ hrun
  obtain ⟨j1, l1, h1⟩ := red_and 255 (by decide) x1
  obtain ⟨j2, l2, h2⟩ := red_and 0 (by decide) x2
  obtain rfl : j2 = 0 := by omega
  have a0 := chunk_0
  have a1 := allFrom_join a0 chunk_3
  have a2 := allFrom_join a1 chunk_6
  have a3 := allFrom_join a2 chunk_9
  have a4 := allFrom_join a3 chunk_12
  have a5 := allFrom_join a4 chunk_15
  have a6 := allFrom_join a5 chunk_18
  have a7 := allFrom_join a6 chunk_21
  have a8 := allFrom_join a7 chunk_24
  have a9 := allFrom_join a8 chunk_27
  have a10 := allFrom_join a9 chunk_30
  have a11 := allFrom_join a10 chunk_33
  have a12 := allFrom_join a11 chunk_36
  have a13 := allFrom_join a12 chunk_39
  have a14 := allFrom_join a13 chunk_42
  have a15 := allFrom_join a14 chunk_45
  have a16 := allFrom_join a15 chunk_48
  have a17 := allFrom_join a16 chunk_51
  have a18 := allFrom_join a17 chunk_54
  have a19 := allFrom_join a18 chunk_57
  have a20 := allFrom_join a19 chunk_60
  have a21 := allFrom_join a20 chunk_63
  have a22 := allFrom_join a21 chunk_66
  have a23 := allFrom_join a22 chunk_69
  have a24 := allFrom_join a23 chunk_72
  have a25 := allFrom_join a24 chunk_75
  have a26 := allFrom_join a25 chunk_78
  have a27 := allFrom_join a26 chunk_81
  have a28 := allFrom_join a27 chunk_84
  have a29 := allFrom_join a28 chunk_87
  have a30 := allFrom_join a29 chunk_90
  have a31 := allFrom_join a30 chunk_93
  have a32 := allFrom_join a31 chunk_96
  have a33 := allFrom_join a32 chunk_99
  have a34 := allFrom_join a33 chunk_102
  have a35 := allFrom_join a34 chunk_105
  have a36 := allFrom_join a35 chunk_108
  have a37 := allFrom_join a36 chunk_111
  have a38 := allFrom_join a37 chunk_114
  have a39 := allFrom_join a38 chunk_117
  have a40 := allFrom_join a39 chunk_120
  have a41 := allFrom_join a40 chunk_123
  have a42 := allFrom_join a41 chunk_126
  have a43 := allFrom_join a42 chunk_129
  have a44 := allFrom_join a43 chunk_132
  have a45 := allFrom_join a44 chunk_135
  have a46 := allFrom_join a45 chunk_138
  have a47 := allFrom_join a46 chunk_141
  have a48 := allFrom_join a47 chunk_144
  have a49 := allFrom_join a48 chunk_147
  have a50 := allFrom_join a49 chunk_150
  have a51 := allFrom_join a50 chunk_153
  have a52 := allFrom_join a51 chunk_156
  have a53 := allFrom_join a52 chunk_159
  have a54 := allFrom_join a53 chunk_162
  have a55 := allFrom_join a54 chunk_165
  have a56 := allFrom_join a55 chunk_168
  have a57 := allFrom_join a56 chunk_171
  have a58 := allFrom_join a57 chunk_174
  have a59 := allFrom_join a58 chunk_177
  have a60 := allFrom_join a59 chunk_180
  have a61 := allFrom_join a60 chunk_183
  have a62 := allFrom_join a61 chunk_186
  have a63 := allFrom_join a62 chunk_189
  have a64 := allFrom_join a63 chunk_192
  have a65 := allFrom_join a64 chunk_195
  have a66 := allFrom_join a65 chunk_198
  have a67 := allFrom_join a66 chunk_201
  have a68 := allFrom_join a67 chunk_204
  have a69 := allFrom_join a68 chunk_207
  have a70 := allFrom_join a69 chunk_210
  have a71 := allFrom_join a70 chunk_213
  have a72 := allFrom_join a71 chunk_216
  have a73 := allFrom_join a72 chunk_219
  have a74 := allFrom_join a73 chunk_222
  have a75 := allFrom_join a74 chunk_225
  have a76 := allFrom_join a75 chunk_228
  have a77 := allFrom_join a76 chunk_231
  have a78 := allFrom_join a77 chunk_234
  have a79 := allFrom_join a78 chunk_237
  have a80 := allFrom_join a79 chunk_240
  have a81 := allFrom_join a80 chunk_243
  have a82 := allFrom_join a81 chunk_246
  have a83 := allFrom_join a82 chunk_249
  have a84 := allFrom_join a83 chunk_252
  have a85 := allFrom_join a84 chunk_255
  exact key [.red .i64 true 255 j1, .red .i64 true 0 0] (.cons _ _ _ _ (.red _ _ _ _ _ h1) (.cons _ _ _ _ (.red _ _ _ _ _ h2) .nil)) (allFrom_spec a85 j1 (Nat.zero_le _) (by omega))
end
theorem own : ownKnob Tryz.prog.godebug = none := by kernel_rfl
theorem gSpace : Tryz.prog.globalNamed "strings.asciiSpace" = some 1 := by kernel_rfl
theorem tSpace : (Tryz.prog.globals[1]?).map (·.type) = some 369 := by kernel_rfl
theorem lSpace : spaceZ.length = 256 := by kernel_rfl
theorem dSpace : (Rows.laid_strings_asciiSpace : DataW Unit) = .agg (spaceZ.map fun z => .lit (.int .u8 z)) := by kernel_rfl
theorem laid_of {W : World} (hs : Tryz.prog.globals.size ≤ W.heap.size) (h : laidMetH Tryz.prog Rows.modelThroughRow.laid W) : LaidOk Tryz.prog laidL tot W := by
  rw [MakeChecks.laidMetH_plain _ _ _ (by kernel_rfl)] at h
  obtain ⟨ps, ⟨_, _, _, _, _, _, _, _, _, _, ⟨_, _, _, _, _, _, _, _, _, _, ⟨g, t, cs, fuel, p, q, hg, ht, hv, hd, _, _⟩, _⟩, _⟩, _, _⟩ := h
  obtain rfl := Option.some.inj (gSpace.symm.trans hg)
  obtain rfl := Option.some.inj (tSpace.symm.trans ht)
  rw [dSpace] at hd
  have hT := table_of gSpace hv Tryz.underlying369 Tryz.underlying5 (by kernel_rfl) (by kernel_rfl) lSpace hd
  refine ⟨hs, fun g o _ hl N ρ => ?_⟩
  by_cases e : g = 1
  · subst e
    obtain rfl : AObj.fixed 0 (spaceZ.map fun z => AV.int .u8 z) = o := Option.some.inj hl
    exact hT N ρ
  · have hne : (g == 1) = false := by simpa using e
    simp only [laidL, List.lookup, hne] at hl
    cases hl
theorem heap_size {W : World} (h : W.ShapedOpen Tryz.prog) : Tryz.prog.globals.size ≤ W.heap.size := by
  obtain ⟨o, _, ho, _⟩ := h.2 _ (Nat.le_refl _) (of_decide_eq_true (by kernel_rfl))
  exact Nat.le_of_lt (Array.getElem?_eq_some_iff.1 ho).1
set_option maxRecDepth 100000 in
theorem lifted (os : Os) (started : os.Started) (H : Type) (enc : TypeId × Value → H) :
    ReturnsInHanded {} Tryz.checked os 3 .any (fun w args => (Rows.modelThroughSpec.pre enc Tryz.prog Tryz.f3 Rows.modelThroughRow.domain false w args ∧ laidMetH Tryz.prog Rows.modelThroughRow.laid w) ∧ sizedMet enc Tryz.prog Tryz.f3 (OpenSpec.ofChange Rows.modelThroughSpec) false w args)
      (Rows.modelThroughSpec.post enc Tryz.prog Tryz.f3 false true false false) := by
  refine handed_of (C := Tryz.checked) (X := fun w _ => laidMetH Tryz.prog Rows.modelThroughRow.laid w) (fun _ _ _ hh h => h.of_heap hh) own started (by kernel_rfl) Tryz.func3
    (ChangeSpec.witness_shaped (enc := enc) (C := Tryz.checked) (os := os) (X := fun w _ => laidMetH Tryz.prog Rows.modelThroughRow.laid w) false (World.laidAll Tryz.prog os Rows.modelThroughRow.laid) #[.int .i64 0, .int .i64 0] 8 (World.laidAll_os _ _ _)
      (World.shaped_of_ZipB (by kernel_rfl) (by kernel_rfl)) (by kernel_rfl) (by kernel_rfl) (by kernel_rfl)
      (by rw [MakeChecks.laidMetH_plain _ _ _ (by kernel_rfl)]; exact laidMet_laidAll _ (by kernel_rfl) (by kernel_rfl))) ?_
  intro W base args ds gs before hval0 hW hL hsh
  have hW' := hW
  obtain ⟨p, q, hA0, hV, rfl, _, _⟩ := hW
  have hA : DataW.TrodAll enc Tryz.prog W 0 (fun _ => true) true Tryz.f3.params.toList args.toList ds p := hA0
  rw [Tryz.params3] at hA
  obtain ⟨u1, u2, d1, d2, p1, p2, rfl, rfl, rfl, hd1, hd2⟩ := trodAll_two hA
  obtain ⟨x1, rfl, rfl, rfl, wf1⟩ := open_int Tryz.underlying3 (hval0 0 _ _ (by rw [← Array.getElem?_toList, Tryz.params3]; rfl) rfl) hd1
  obtain ⟨x2, rfl, rfl, rfl, wf2⟩ := open_int Tryz.underlying3 (hval0 1 _ _ (by rw [← Array.getElem?_toList, Tryz.params3]; rfl) rfl) hd2
  obtain ⟨rfl, rfl⟩ := trodVars_none hV
  obtain ⟨m, hm⟩ := Tryz.laysM143.s1_3 W hsh
  refine (law_ok hm (laid_of (heap_size hsh) hL) x1 x2).mono fun e W' ⟨he, hg⟩ => ?_
  subst he
  exact ⟨_, rfl, post_of_grew hW' (fun _ _ _ => trodAll_mk1 (shut_bool Tryz.underlying4 _)) (fun _ => by rw [Tryz.params3]; exact (trodAll_cons_mk (shut_int Tryz.underlying3 wf1) (trodAll_cons_mk (shut_int Tryz.underlying3 wf2) trodAll_mk0))) (fun _ => rfl) hg⟩
end Go.Proofs.YtoniabaeidgglaaGreatDoor

/- ModelLinks answers true, and nothing that was there is turned: the contract, out of the evaluator's runs, and its lift to the row's form. Conditions: those of the given row (the listed variables read as listed). -/
import Derived.Test.YtckbhajndplkiaaGreatDoorLiRA
import Derived.Test.YtckbhajndplkiaaGreatDoorLiMT
import Derived.Test.YtckbhajndplkiaaGreatDoorLiRM0
import Derived.Test.YtckbhajndplkiaaGreatDoorLiRM1
import Derived.Test.YtckbhajndplkiaaGreatDoorLiRM2
import Derived.Test.YtckbhajndplkiaaGreatDoorLiRM3
import Derived.Test.YtckbhajndplkiaaGreatDoorLiRM4
import Derived.Test.YtckbhajndplkiaaGreatDoorLiRM5
import Derived.Test.YtckbhajndplkiaaGreatDoorLiRM6
import Derived.Test.YtckbhajndplkiaaGreatDoorLiRM7
import Derived.Test.YtckbhajndplkiaaGreatDoorLiRM8
import Derived.Test.YtckbhajndplkiaaGreatDoorLiRM9
import Derived.Test.YtckbhajndplkiaaGreatDoorLiRM10
import Derived.Test.YtckbhajndplkiaaGreatDoorLiRM11
import Derived.Test.YtckbhajndplkiaaGreatDoorRows
import Derived.SevenTiedAt
import Derived.Stop.Joined
namespace Go.Proofs.YtckbhajndplkiaaGreatDoor
open Go.ChangeShapes Go.WideShapes Go.ChangeAt Go.RowKit Go.VM
theorem mixed : Tryz.prog.follows .mixedOrders = true := by kernel_rfl
theorem g64 : Tryz.prog.globals.size ≤ 64 := by decide +kernel
theorem row336 : Extern.findNext Tryz.f336 = none ∧ Extern.find Tryz.f336 = some Extern.BytealgIndexByte.indexByte := ⟨by kernel_rfl, by kernel_rfl⟩
theorem vm336 : vmRow 4 Tryz.f336 = some Extern.BytealgIndexByte.indexByte := rfl
theorem row349 : Extern.findNext Tryz.f349 = none ∧ Extern.find Tryz.f349 = some (Extern.BytealgMakeNoZero.makeNoZero Tryz.f349.params Tryz.f349.resultTypes) := ⟨by kernel_rfl, by kernel_rfl⟩
theorem vm349 : vmRow 5 Tryz.f349 = some (Extern.BytealgMakeNoZero.makeNoZero Tryz.f349.params Tryz.f349.resultTypes) := rfl
theorem row382 : Extern.findNext Tryz.f382 = none ∧ Extern.find Tryz.f382 = some Extern.MathFloatBits.float64bits := ⟨by kernel_rfl, by kernel_rfl⟩
theorem vm382 : vmRow 1 Tryz.f382 = some Extern.MathFloatBits.float64bits := rfl
theorem row356 : Extern.findNext Tryz.f356 = none ∧ Extern.find Tryz.f356 = some Extern.MathFloatBits.float64frombits := ⟨by kernel_rfl, by kernel_rfl⟩
theorem vm356 : vmRow 2 Tryz.f356 = some Extern.MathFloatBits.float64frombits := rfl
theorem row281 : Extern.findNext Tryz.f281 = none ∧ Extern.find Tryz.f281 = some Extern.AbiNoEscape.same := ⟨by kernel_rfl, by kernel_rfl⟩
theorem vm281 : vmRow 3 Tryz.f281 = some Extern.AbiNoEscape.same := rfl
theorem row400 : Extern.findNext Tryz.f400 = none ∧ Extern.find Tryz.f400 = some (Extern.MathFloor.toIntegral "math.archTrunc" .zero) := ⟨by kernel_rfl, by kernel_rfl⟩
theorem vm400 : vmRow 6 Tryz.f400 = some (Extern.MathFloor.toIntegral "math.archTrunc" .zero) := rfl
theorem rows_ok (H : Hook) (hH : H.exts = lookN extL) : @RowsOk H Tryz.prog := by
  refine @rowsOk_of H _ extL (fun f => by show H.exts f = _; rw [hH]) fun f k hm fd hp impl hv => ?_
  simp only [extL, List.mem_cons, List.not_mem_nil, or_false, Prod.mk.injEq] at hm
  rcases hm with ⟨rfl, rfl⟩ | ⟨rfl, rfl⟩ | ⟨rfl, rfl⟩ | ⟨rfl, rfl⟩ | ⟨rfl, rfl⟩ | ⟨rfl, rfl⟩
  · rw [Tryz.func336] at hp; cases hp; rw [vm336] at hv; cases hv; exact row336
  · rw [Tryz.func349] at hp; cases hp; rw [vm349] at hv; cases hv; exact row349
  · rw [Tryz.func382] at hp; cases hp; rw [vm382] at hv; cases hv; exact row382
  · rw [Tryz.func356] at hp; cases hp; rw [vm356] at hv; cases hv; exact row356
  · rw [Tryz.func281] at hp; cases hp; rw [vm281] at hv; cases hv; exact row281
  · rw [Tryz.func400] at hp; cases hp; rw [vm400] at hv; cases hv; exact row400
theorem body11 : ∃ c, bodyOf Tryz.prog 11 = some c := body_of Tryz.func11 (by kernel_rfl) (by kernel_rfl)
theorem body12 : ∃ c, bodyOf Tryz.prog 12 = some c := body_of Tryz.func12 (by kernel_rfl) (by kernel_rfl)
theorem body122 : ∃ c, bodyOf Tryz.prog 122 = some c := body_of Tryz.func122 (by kernel_rfl) (by kernel_rfl)
theorem body278 : ∃ c, bodyOf Tryz.prog 278 = some c := body_of Tryz.func278 (by kernel_rfl) (by kernel_rfl)
theorem body324 : ∃ c, bodyOf Tryz.prog 324 = some c := body_of Tryz.func324 (by kernel_rfl) (by kernel_rfl)
theorem body202 : ∃ c, bodyOf Tryz.prog 202 = some c := body_of Tryz.func202 (by kernel_rfl) (by kernel_rfl)
theorem gm_lt : 0 < Tryz.prog.globals.size := by decide +kernel
section
variable {W : World} {m : Int}
theorem sat_ix [Hook] (hm : W.cell? ⟨0, 0, none⟩ = some (.int .i64 m)) (hsz : 0 < W.heap.size) : Sat Tryz.prog W 278 1 := fun s sub w _ ho hl => Any.strings_Index { Tryz.laysM143 with } s sub m w hl (cell_old hm hsz ho)
theorem sat_ixl [Hook] (hm : W.cell? ⟨0, 0, none⟩ = some (.int .i64 m)) (hsz : 0 < W.heap.size) : Sat Tryz.prog W 324 1 := fun s sub w _ ho hl => Any.stringslite_Index { Tryz.laysM219 with } s sub m w hl (cell_old hm hsz ho)
theorem sat_co [Hook] (hm : W.cell? ⟨0, 0, none⟩ = some (.int .i64 m)) (hsz : 0 < W.heap.size) : Sat Tryz.prog W 202 2 := fun s sub w _ ho hl => Any.strings_Contains { Tryz.laysM144 with } s sub m w hl (cell_old hm hsz ho)
theorem sum0 (hm : W.cell? ⟨0, 0, none⟩ = some (.int .i64 m)) (hL : LaidOk Tryz.prog laidL tot W) : @SumOk Tryz.prog hook0 W :=
  have hlt := Nat.lt_of_lt_of_le gm_lt hL.1
  @sumOk_of hook0 _ _ (@sums_of hook0 _ W sumL rfl (List.forall_mem_cons.2 ⟨body278, (List.forall_mem_cons.2 ⟨body324, (List.forall_mem_cons.2 ⟨body202, (by intro q h; cases h)⟩)⟩)⟩) (List.forall_mem_cons.2 ⟨@sat_ix W m hook0 hm hlt, (List.forall_mem_cons.2 ⟨@sat_ixl W m hook0 hm hlt, (List.forall_mem_cons.2 ⟨@sat_co W m hook0 hm hlt, (by intro q h; cases h)⟩)⟩)⟩))
theorem sat_m0a (hm : W.cell? ⟨0, 0, none⟩ = some (.int .i64 m)) (hL : LaidOk Tryz.prog laidL tot W) : @Sat hookA Tryz.prog W 122 4 := ⟨PrimOk.none (k := 0), fun a r hr => ⟨@row_ok hook0 _ laidL 122 key0 r (tab0_ok a r hr), fun _ _ _ hrel hs ho => @memo_of hook0 _ (rows_ok hook0 rfl) mixed g64 laidL tot 122 r key0 _ (sum0 (cell_old hm (Nat.lt_of_lt_of_le gm_lt hL.1) ho) (hL.of_old hs ho)) (hL.of_old hs ho) _ _ hrel (tab0_ok a r hr)⟩⟩
theorem sat_m0b (hm : W.cell? ⟨0, 0, none⟩ = some (.int .i64 m)) (hL : LaidOk Tryz.prog laidL tot W) : @Sat hookM Tryz.prog W 122 4 := ⟨PrimOk.none (k := 0), fun a r hr => ⟨@row_ok hook0 _ laidL 122 key0 r (tab0_ok a r hr), fun _ _ _ hrel hs ho => @memo_of hook0 _ (rows_ok hook0 rfl) mixed g64 laidL tot 122 r key0 _ (sum0 (cell_old hm (Nat.lt_of_lt_of_le gm_lt hL.1) ho) (hL.of_old hs ho)) (hL.of_old hs ho) _ _ hrel (tab0_ok a r hr)⟩⟩
theorem sumA (hm : W.cell? ⟨0, 0, none⟩ = some (.int .i64 m)) (hL : LaidOk Tryz.prog laidL tot W) : @SumOk Tryz.prog hookA W :=
  have hlt := Nat.lt_of_lt_of_le gm_lt hL.1
  @sumOk_of hookA _ _ (@sums_of hookA _ W sumLA rfl (List.forall_mem_cons.2 ⟨body122, (List.forall_mem_cons.2 ⟨body278, (List.forall_mem_cons.2 ⟨body324, (List.forall_mem_cons.2 ⟨body202, (by intro q h; cases h)⟩)⟩)⟩)⟩) (List.forall_mem_cons.2 ⟨sat_m0a hm hL, (List.forall_mem_cons.2 ⟨@sat_ix W m hookA hm hlt, (List.forall_mem_cons.2 ⟨@sat_ixl W m hookA hm hlt, (List.forall_mem_cons.2 ⟨@sat_co W m hookA hm hlt, (by intro q h; cases h)⟩)⟩)⟩)⟩))
/-- 'awake' answers true, in whatever world -/
theorem awake_ok (hm : W.cell? ⟨0, 0, none⟩ = some (.int .i64 m)) (hL : LaidOk Tryz.prog laidL tot W) : Calls Tryz.prog 11 #[] W fun e w' => e = .returned (.bool true) ∧ Grew W w' :=
  @truth_of hookA _ (rows_ok hookA rfl) mixed g64 laidL tot 11 [] [] W (sumA hm hL) hL .nil _ awake_run
theorem sat_aw [Hook] (hm : W.cell? ⟨0, 0, none⟩ = some (.int .i64 m)) (hL : LaidOk Tryz.prog laidL tot W) : Sat Tryz.prog W 11 3 := fun _ hs ho => awake_ok (cell_old hm (Nat.lt_of_lt_of_le gm_lt hL.1) ho) (hL.of_old hs ho)
theorem sat_face (hm : W.cell? ⟨0, 0, none⟩ = some (.int .i64 m)) (hL : LaidOk Tryz.prog laidL tot W) : @Sat hookM Tryz.prog W 12 5 := by
  refine ⟨PrimOk.none (k := 1), fun _ r hr => ?_⟩
  have hr : r ∈ [faceRow] := hr
  obtain rfl : r = faceRow := by simpa using hr
  exact ⟨@row_ok hookA _ laidL 12 key4 faceRow face_run, fun _ _ _ hrel hs ho => @memo_of hookA _ (rows_ok hookA rfl) mixed g64 laidL tot 12 faceRow key4 _ (sumA (cell_old hm (Nat.lt_of_lt_of_le gm_lt hL.1) ho) (hL.of_old hs ho)) (hL.of_old hs ho) _ _ hrel face_run⟩
theorem sumM (hm : W.cell? ⟨0, 0, none⟩ = some (.int .i64 m)) (hL : LaidOk Tryz.prog laidL tot W) : @SumOk Tryz.prog hookM W :=
  have hlt := Nat.lt_of_lt_of_le gm_lt hL.1
  @sumOk_of hookM _ _ (@sums_of hookM _ W sumLM rfl (List.forall_mem_cons.2 ⟨body11, (List.forall_mem_cons.2 ⟨body12, (List.forall_mem_cons.2 ⟨body122, (List.forall_mem_cons.2 ⟨body278, (List.forall_mem_cons.2 ⟨body324, (List.forall_mem_cons.2 ⟨body202, (by intro q h; cases h)⟩)⟩)⟩)⟩)⟩)⟩) (List.forall_mem_cons.2 ⟨@sat_aw W m hookM hm hL, (List.forall_mem_cons.2 ⟨sat_face hm hL, (List.forall_mem_cons.2 ⟨sat_m0b hm hL, (List.forall_mem_cons.2 ⟨@sat_ix W m hookM hm hlt, (List.forall_mem_cons.2 ⟨@sat_ixl W m hookM hm hlt, (List.forall_mem_cons.2 ⟨@sat_co W m hookM hm hlt, (by intro q h; cases h)⟩)⟩)⟩)⟩)⟩)⟩))
/-- the law answers true, in whatever world -/
theorem law_ok (hm : W.cell? ⟨0, 0, none⟩ = some (.int .i64 m)) (hL : LaidOk Tryz.prog laidL tot W) (x1 : Int) (x2 : Int) : Calls Tryz.prog 4 ⟨[.int .i64 x1, .int .i64 x2]⟩ W fun e w' => e = .returned (.bool true) ∧ Grew W w' := by
  have key : ∀ av : List AV, RelL (startRho tot Tryz.prog.globals.size) av [.int .i64 x1, .int .i64 x2] → @runF Tryz.prog hookM isTrue 500000 (startSt Tryz.prog laidL 4 av) = true → Calls Tryz.prog 4 ⟨[.int .i64 x1, .int .i64 x2]⟩ W fun e w' => e = .returned (.bool true) ∧ Grew W w' :=
    fun av hr hrun => @truth_of hookM _ (rows_ok hookM rfl) mixed g64 laidL tot 4 av [.int .i64 x1, .int .i64 x2] W (sumM hm hL) hL hr _ hrun
  obtain ⟨j1, l1, h1⟩ := red_and 0 (by decide) x1
  obtain rfl : j1 = 0 := by omega
  obtain ⟨j2, l2, h2⟩ := red_and 255 (by decide) x2
  have a0 := chunk_0
  have a1 := allFrom_join a0 chunk_2
  have a2 := allFrom_join a1 chunk_4
  have a3 := allFrom_join a2 chunk_6
  have a4 := allFrom_join a3 chunk_8
  have a5 := allFrom_join a4 chunk_10
  have a6 := allFrom_join a5 chunk_12
  have a7 := allFrom_join a6 chunk_14
  have a8 := allFrom_join a7 chunk_16
  have a9 := allFrom_join a8 chunk_18
  have a10 := allFrom_join a9 chunk_20
  have a11 := allFrom_join a10 chunk_22
  have a12 := allFrom_join a11 chunk_24
  have a13 := allFrom_join a12 chunk_26
  have a14 := allFrom_join a13 chunk_28
  have a15 := allFrom_join a14 chunk_30
  have a16 := allFrom_join a15 chunk_32
  have a17 := allFrom_join a16 chunk_34
  have a18 := allFrom_join a17 chunk_36
  have a19 := allFrom_join a18 chunk_38
  have a20 := allFrom_join a19 chunk_40
  have a21 := allFrom_join a20 chunk_42
  have a22 := allFrom_join a21 chunk_44
  have a23 := allFrom_join a22 chunk_46
  have a24 := allFrom_join a23 chunk_48
  have a25 := allFrom_join a24 chunk_50
  have a26 := allFrom_join a25 chunk_52
  have a27 := allFrom_join a26 chunk_54
  have a28 := allFrom_join a27 chunk_56
  have a29 := allFrom_join a28 chunk_58
  have a30 := allFrom_join a29 chunk_60
  have a31 := allFrom_join a30 chunk_62
  have a32 := allFrom_join a31 chunk_64
  have a33 := allFrom_join a32 chunk_66
  have a34 := allFrom_join a33 chunk_68
  have a35 := allFrom_join a34 chunk_70
  have a36 := allFrom_join a35 chunk_72
  have a37 := allFrom_join a36 chunk_74
  have a38 := allFrom_join a37 chunk_76
  have a39 := allFrom_join a38 chunk_78
  have a40 := allFrom_join a39 chunk_80
  have a41 := allFrom_join a40 chunk_82
  have a42 := allFrom_join a41 chunk_84
  have a43 := allFrom_join a42 chunk_86
  have a44 := allFrom_join a43 chunk_88
  have a45 := allFrom_join a44 chunk_90
  have a46 := allFrom_join a45 chunk_92
  have a47 := allFrom_join a46 chunk_94
  have a48 := allFrom_join a47 chunk_96
  have a49 := allFrom_join a48 chunk_98
  have a50 := allFrom_join a49 chunk_100
  have a51 := allFrom_join a50 chunk_102
  have a52 := allFrom_join a51 chunk_104
  have a53 := allFrom_join a52 chunk_106
  have a54 := allFrom_join a53 chunk_108
  have a55 := allFrom_join a54 chunk_110
  have a56 := allFrom_join a55 chunk_112
  have a57 := allFrom_join a56 chunk_114
  have a58 := allFrom_join a57 chunk_116
  have a59 := allFrom_join a58 chunk_118
  have a60 := allFrom_join a59 chunk_120
  have a61 := allFrom_join a60 chunk_122
  have a62 := allFrom_join a61 chunk_124
  have a63 := allFrom_join a62 chunk_126
  have a64 := allFrom_join a63 chunk_128
  have a65 := allFrom_join a64 chunk_130
  have a66 := allFrom_join a65 chunk_132
  have a67 := allFrom_join a66 chunk_134
  have a68 := allFrom_join a67 chunk_136
  have a69 := allFrom_join a68 chunk_138
  have a70 := allFrom_join a69 chunk_140
  have a71 := allFrom_join a70 chunk_142
  have a72 := allFrom_join a71 chunk_144
  have a73 := allFrom_join a72 chunk_146
  have a74 := allFrom_join a73 chunk_148
  have a75 := allFrom_join a74 chunk_150
  have a76 := allFrom_join a75 chunk_152
  have a77 := allFrom_join a76 chunk_154
  have a78 := allFrom_join a77 chunk_156
  have a79 := allFrom_join a78 chunk_158
  have a80 := allFrom_join a79 chunk_160
  have a81 := allFrom_join a80 chunk_162
  have a82 := allFrom_join a81 chunk_164
  have a83 := allFrom_join a82 chunk_166
  have a84 := allFrom_join a83 chunk_168
  have a85 := allFrom_join a84 chunk_170
  have a86 := allFrom_join a85 chunk_172
  have a87 := allFrom_join a86 chunk_174
  have a88 := allFrom_join a87 chunk_176
  have a89 := allFrom_join a88 chunk_178
  have a90 := allFrom_join a89 chunk_180
  have a91 := allFrom_join a90 chunk_182
  have a92 := allFrom_join a91 chunk_184
  have a93 := allFrom_join a92 chunk_186
  have a94 := allFrom_join a93 chunk_188
  have a95 := allFrom_join a94 chunk_190
  have a96 := allFrom_join a95 chunk_192
  have a97 := allFrom_join a96 chunk_194
  have a98 := allFrom_join a97 chunk_196
  have a99 := allFrom_join a98 chunk_198
  have a100 := allFrom_join a99 chunk_200
  have a101 := allFrom_join a100 chunk_202
  have a102 := allFrom_join a101 chunk_204
  have a103 := allFrom_join a102 chunk_206
  have a104 := allFrom_join a103 chunk_208
  have a105 := allFrom_join a104 chunk_210
  have a106 := allFrom_join a105 chunk_212
  have a107 := allFrom_join a106 chunk_214
  have a108 := allFrom_join a107 chunk_216
  have a109 := allFrom_join a108 chunk_218
  have a110 := allFrom_join a109 chunk_220
  have a111 := allFrom_join a110 chunk_222
  have a112 := allFrom_join a111 chunk_224
  have a113 := allFrom_join a112 chunk_226
  have a114 := allFrom_join a113 chunk_228
  have a115 := allFrom_join a114 chunk_230
  have a116 := allFrom_join a115 chunk_232
  have a117 := allFrom_join a116 chunk_234
  have a118 := allFrom_join a117 chunk_236
  have a119 := allFrom_join a118 chunk_238
  have a120 := allFrom_join a119 chunk_240
  have a121 := allFrom_join a120 chunk_242
  have a122 := allFrom_join a121 chunk_244
  have a123 := allFrom_join a122 chunk_246
  have a124 := allFrom_join a123 chunk_248
  have a125 := allFrom_join a124 chunk_250
  have a126 := allFrom_join a125 chunk_252
  have a127 := allFrom_join a126 chunk_254
  exact key [.red .i64 true 0 0, .red .i64 true 255 j2] (.cons _ _ _ _ (.red _ _ _ _ _ h1) (.cons _ _ _ _ (.red _ _ _ _ _ h2) .nil)) (allFrom_spec a127 j2 (Nat.zero_le _) (by omega))
end
theorem own : ownKnob Tryz.prog.godebug = none := by kernel_rfl
theorem gSpace : Tryz.prog.globalNamed "strings.asciiSpace" = some 1 := by kernel_rfl
theorem tSpace : (Tryz.prog.globals[1]?).map (·.type) = some 369 := by kernel_rfl
theorem lSpace : spaceZ.length = 256 := by kernel_rfl
theorem dSpace : (Rows.laid_strings_asciiSpace : DataW Unit) = .agg (spaceZ.map fun z => .lit (.int .u8 z)) := by kernel_rfl
theorem laid_of {W : World} (hs : Tryz.prog.globals.size ≤ W.heap.size) (h : laidMetH Tryz.prog Rows.modelLinksRow.laid W) : LaidOk Tryz.prog laidL tot W := by
  rw [MakeChecks.laidMetH_plain _ _ _ (by kernel_rfl)] at h
  obtain ⟨ps, ⟨_, _, _, _, _, _, _, _, _, _, ⟨_, _, _, _, _, _, _, _, _, _, ⟨g, t, cs, fuel, p, q, hg, ht, hv, hd, _, _⟩, _⟩, _⟩, _, _⟩ := h
  obtain rfl := Option.some.inj (gSpace.symm.trans hg)
  obtain rfl := Option.some.inj (tSpace.symm.trans ht)
  rw [dSpace] at hd
  have hT := table_of gSpace hv Tryz.underlying369 Tryz.underlying5 (by kernel_rfl) (by kernel_rfl) lSpace hd
  refine ⟨hs, fun g o _ hl N ρ => ?_⟩
  by_cases e : g = 1
  · subst e
    obtain rfl : AObj.fixed 0 (spaceZ.map fun z => AV.int .u8 z) = o := Option.some.inj hl
    exact hT N ρ
  · have hne : (g == 1) = false := by simpa using e
    simp only [laidL, List.lookup, hne] at hl
    cases hl
theorem heap_size {W : World} (h : W.ShapedOpen Tryz.prog) : Tryz.prog.globals.size ≤ W.heap.size := by
  obtain ⟨o, _, ho, _⟩ := h.2 _ (Nat.le_refl _) (of_decide_eq_true (by kernel_rfl))
  exact Nat.le_of_lt (Array.getElem?_eq_some_iff.1 ho).1
set_option maxRecDepth 100000 in
theorem lifted (os : Os) (started : os.Started) (H : Type) (enc : TypeId × Value → H) :
    ReturnsInHanded {} Tryz.checked os 4 .any (fun w args => (Rows.modelLinksSpec.pre enc Tryz.prog Tryz.f4 Rows.modelLinksRow.domain false w args ∧ laidMetH Tryz.prog Rows.modelLinksRow.laid w) ∧ sizedMet enc Tryz.prog Tryz.f4 (OpenSpec.ofChange Rows.modelLinksSpec) false w args)
      (Rows.modelLinksSpec.post enc Tryz.prog Tryz.f4 false true false false) := by
  refine handed_of (C := Tryz.checked) (X := fun w _ => laidMetH Tryz.prog Rows.modelLinksRow.laid w) (fun _ _ _ hh h => h.of_heap hh) own started (by kernel_rfl) Tryz.func4
    (ChangeSpec.witness_shaped (enc := enc) (C := Tryz.checked) (os := os) (X := fun w _ => laidMetH Tryz.prog Rows.modelLinksRow.laid w) false (World.laidAll Tryz.prog os Rows.modelLinksRow.laid) #[.int .i64 0, .int .i64 0] 8 (World.laidAll_os _ _ _)
      (World.shaped_of_ZipB (by kernel_rfl) (by kernel_rfl)) (by kernel_rfl) (by kernel_rfl) (by kernel_rfl)
      (by rw [MakeChecks.laidMetH_plain _ _ _ (by kernel_rfl)]; exact laidMet_laidAll _ (by kernel_rfl) (by kernel_rfl))) ?_
  intro W base args ds gs before hval0 hW hL hsh
  have hW' := hW
  obtain ⟨p, q, hA0, hV, rfl, _, _⟩ := hW
  have hA : DataW.TrodAll enc Tryz.prog W 0 (fun _ => true) true Tryz.f4.params.toList args.toList ds p := hA0
  rw [Tryz.params4] at hA
  obtain ⟨u1, u2, d1, d2, p1, p2, rfl, rfl, rfl, hd1, hd2⟩ := trodAll_two hA
  obtain ⟨x1, rfl, rfl, rfl, wf1⟩ := open_int Tryz.underlying3 (hval0 0 _ _ (by rw [← Array.getElem?_toList, Tryz.params4]; rfl) rfl) hd1
  obtain ⟨x2, rfl, rfl, rfl, wf2⟩ := open_int Tryz.underlying3 (hval0 1 _ _ (by rw [← Array.getElem?_toList, Tryz.params4]; rfl) rfl) hd2
  obtain ⟨rfl, rfl⟩ := trodVars_none hV
  obtain ⟨m, hm⟩ := Tryz.laysM143.s1_3 W hsh
  refine (law_ok hm (laid_of (heap_size hsh) hL) x1 x2).mono fun e W' ⟨he, hg⟩ => ?_
  subst he
  exact ⟨_, rfl, post_of_grew hW' (fun _ _ _ => trodAll_mk1 (shut_bool Tryz.underlying4 _)) (fun _ => by rw [Tryz.params4]; exact (trodAll_cons_mk (shut_int Tryz.underlying3 wf1) (trodAll_cons_mk (shut_int Tryz.underlying3 wf2) trodAll_mk0))) (fun _ => rfl) hg⟩
end Go.Proofs.YtckbhajndplkiaaGreatDoor

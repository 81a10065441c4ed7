/- ConsoleTells answers true, and nothing that was there is turned: the contract, out of the evaluator's runs, and its lift to the row's form. Conditions: those of the given row (the listed variables read as listed). -/
import Derived.Test.YtlihfgobifchiaaGreatDoorCtRA
import Derived.Test.YtlihfgobifchiaaGreatDoorCtMT
import Derived.Test.YtlihfgobifchiaaGreatDoorCtRM0
import Derived.Test.YtlihfgobifchiaaGreatDoorCtRM1
import Derived.Test.YtlihfgobifchiaaGreatDoorCtRM2
import Derived.Test.YtlihfgobifchiaaGreatDoorCtRM3
import Derived.Test.YtlihfgobifchiaaGreatDoorCtRM4
import Derived.Test.YtlihfgobifchiaaGreatDoorCtRM5
import Derived.Test.YtlihfgobifchiaaGreatDoorCtRM6
import Derived.Test.YtlihfgobifchiaaGreatDoorCtRM7
import Derived.Test.YtlihfgobifchiaaGreatDoorCtRM8
import Derived.Test.YtlihfgobifchiaaGreatDoorCtRM9
import Derived.Test.YtlihfgobifchiaaGreatDoorCtRM10
import Derived.Test.YtlihfgobifchiaaGreatDoorCtRM11
import Derived.Test.YtlihfgobifchiaaGreatDoorCtRM12
import Derived.Test.YtlihfgobifchiaaGreatDoorCtRM13
import Derived.Test.YtlihfgobifchiaaGreatDoorCtRM14
import Derived.Test.YtlihfgobifchiaaGreatDoorCtRM15
import Derived.Test.YtlihfgobifchiaaGreatDoorCtRM16
import Derived.Test.YtlihfgobifchiaaGreatDoorCtRM17
import Derived.Test.YtlihfgobifchiaaGreatDoorCtRM18
import Derived.Test.YtlihfgobifchiaaGreatDoorCtRM19
import Derived.Test.YtlihfgobifchiaaGreatDoorCtRM20
import Derived.Test.YtlihfgobifchiaaGreatDoorCtRM21
import Derived.Test.YtlihfgobifchiaaGreatDoorCtRM22
import Derived.Test.YtlihfgobifchiaaGreatDoorCtRM23
import Derived.Test.YtlihfgobifchiaaGreatDoorCtRM24
import Derived.Test.YtlihfgobifchiaaGreatDoorCtRM25
import Derived.Test.YtlihfgobifchiaaGreatDoorCtRM26
import Derived.Test.YtlihfgobifchiaaGreatDoorCtRM27
import Derived.Test.YtlihfgobifchiaaGreatDoorCtRM28
import Derived.Test.YtlihfgobifchiaaGreatDoorCtRM29
import Derived.Test.YtlihfgobifchiaaGreatDoorCtRM30
import Derived.Test.YtlihfgobifchiaaGreatDoorCtRM31
import Derived.Test.YtlihfgobifchiaaGreatDoorCtRM32
import Derived.Test.YtlihfgobifchiaaGreatDoorCtRM33
import Derived.Test.YtlihfgobifchiaaGreatDoorRows
import Derived.SevenTiedAt
import Derived.Stop.Joined
import Derived.OpenShut
namespace Go.Proofs.YtlihfgobifchiaaGreatDoor
open Go.ChangeShapes Go.WideShapes Go.ChangeAt Go.RowKit Go.VM
theorem mixed : Tryz.prog.follows .mixedOrders = true := by kernel_rfl
theorem g64 : Tryz.prog.globals.size ≤ 64 := by decide +kernel
theorem row243 : Extern.findNext Tryz.f243 = none ∧ Extern.find Tryz.f243 = some Extern.BytealgIndexByte.indexByte := ⟨by kernel_rfl, by kernel_rfl⟩
theorem vm243 : vmRow 4 Tryz.f243 = some Extern.BytealgIndexByte.indexByte := rfl
theorem row245 : Extern.findNext Tryz.f245 = none ∧ Extern.find Tryz.f245 = some (Extern.BytealgMakeNoZero.makeNoZero Tryz.f245.params Tryz.f245.resultTypes) := ⟨by kernel_rfl, by kernel_rfl⟩
theorem vm245 : vmRow 5 Tryz.f245 = some (Extern.BytealgMakeNoZero.makeNoZero Tryz.f245.params Tryz.f245.resultTypes) := rfl
theorem row161 : Extern.findNext Tryz.f161 = none ∧ Extern.find Tryz.f161 = some Extern.MathFloatBits.float64bits := ⟨by kernel_rfl, by kernel_rfl⟩
theorem vm161 : vmRow 1 Tryz.f161 = some Extern.MathFloatBits.float64bits := rfl
theorem row322 : Extern.findNext Tryz.f322 = none ∧ Extern.find Tryz.f322 = some Extern.MathFloatBits.float64frombits := ⟨by kernel_rfl, by kernel_rfl⟩
theorem vm322 : vmRow 2 Tryz.f322 = some Extern.MathFloatBits.float64frombits := rfl
theorem row168 : Extern.findNext Tryz.f168 = none ∧ Extern.find Tryz.f168 = some Extern.AbiNoEscape.same := ⟨by kernel_rfl, by kernel_rfl⟩
theorem vm168 : vmRow 3 Tryz.f168 = some Extern.AbiNoEscape.same := rfl
theorem row241 : Extern.findNext Tryz.f241 = none ∧ Extern.find Tryz.f241 = some (Extern.MathFloor.toIntegral "math.archTrunc" .zero) := ⟨by kernel_rfl, by kernel_rfl⟩
theorem vm241 : vmRow 6 Tryz.f241 = some (Extern.MathFloor.toIntegral "math.archTrunc" .zero) := rfl
theorem row109 : Extern.findNext Tryz.f109 = none ∧ Extern.find Tryz.f109 = some Extern.BytealgCount.count := ⟨by kernel_rfl, by kernel_rfl⟩
theorem vm109 : vmRow 8 Tryz.f109 = some Extern.BytealgCount.count := rfl
theorem rows_ok (H : Hook) (hH : H.exts = lookN extL) : @RowsOk H Tryz.prog := by
  refine @rowsOk_of H _ extL (fun f => by show H.exts f = _; rw [hH]) fun f k hm fd hp impl hv => ?_
  simp only [extL, List.mem_cons, List.not_mem_nil, or_false, Prod.mk.injEq] at hm
  rcases hm with ⟨rfl, rfl⟩ | ⟨rfl, rfl⟩ | ⟨rfl, rfl⟩ | ⟨rfl, rfl⟩ | ⟨rfl, rfl⟩ | ⟨rfl, rfl⟩ | ⟨rfl, rfl⟩
  · rw [Tryz.func243] at hp; cases hp; rw [vm243] at hv; cases hv; exact row243
  · rw [Tryz.func245] at hp; cases hp; rw [vm245] at hv; cases hv; exact row245
  · rw [Tryz.func161] at hp; cases hp; rw [vm161] at hv; cases hv; exact row161
  · rw [Tryz.func322] at hp; cases hp; rw [vm322] at hv; cases hv; exact row322
  · rw [Tryz.func168] at hp; cases hp; rw [vm168] at hv; cases hv; exact row168
  · rw [Tryz.func241] at hp; cases hp; rw [vm241] at hv; cases hv; exact row241
  · rw [Tryz.func109] at hp; cases hp; rw [vm109] at hv; cases hv; exact row109
theorem body4 : ∃ c, bodyOf Tryz.prog 4 = some c := body_of Tryz.func4 (by kernel_rfl) (by kernel_rfl)
theorem body121 : ∃ c, bodyOf Tryz.prog 121 = some c := body_of Tryz.func121 (by kernel_rfl) (by kernel_rfl)
theorem body217 : ∃ c, bodyOf Tryz.prog 217 = some c := body_of Tryz.func217 (by kernel_rfl) (by kernel_rfl)
theorem body393 : ∃ c, bodyOf Tryz.prog 393 = some c := body_of Tryz.func393 (by kernel_rfl) (by kernel_rfl)
theorem body60 : ∃ c, bodyOf Tryz.prog 60 = some c := body_of Tryz.func60 (by kernel_rfl) (by kernel_rfl)
theorem body110 : ∃ c, bodyOf Tryz.prog 110 = some c := body_of Tryz.func110 (by kernel_rfl) (by kernel_rfl)
theorem body181 : ∃ c, bodyOf Tryz.prog 181 = some c := body_of Tryz.func181 (by kernel_rfl) (by kernel_rfl)
theorem gm_lt : 0 < Tryz.prog.globals.size := by decide +kernel
section
variable {b : Base} {W : World} {m : Int}
theorem sat_ix [Hook] (hm : b.w.cell? ⟨0, 0, none⟩ = some (.int .i64 m)) (hk : b.Keeps Tryz.prog laidL tot) : Sat Tryz.prog b 60 1 := fun s sub w _ ho hl => Any.strings_Index { Tryz.laysM143 with } s sub m w hl (cell_keeps hk hm gm_lt ho)
theorem sat_ixl [Hook] (hm : b.w.cell? ⟨0, 0, none⟩ = some (.int .i64 m)) (hk : b.Keeps Tryz.prog laidL tot) : Sat Tryz.prog b 110 1 := fun s sub w _ ho hl => Any.stringslite_Index { Tryz.laysM219 with } s sub m w hl (cell_keeps hk hm gm_lt ho)
theorem sat_co [Hook] (hm : b.w.cell? ⟨0, 0, none⟩ = some (.int .i64 m)) (hk : b.Keeps Tryz.prog laidL tot) : Sat Tryz.prog b 181 2 := fun s sub w _ ho hl => Any.strings_Contains { Tryz.laysM144 with } s sub m w hl (cell_keeps hk hm gm_lt ho)
theorem sum0 (hm : b.w.cell? ⟨0, 0, none⟩ = some (.int .i64 m)) (hk : b.Keeps Tryz.prog laidL tot) : @SumOk Tryz.prog hook0 b :=
  @sumOk_of hook0 _ _ (@sums_of hook0 _ b sumL rfl (List.forall_mem_cons.2 ⟨body60, (List.forall_mem_cons.2 ⟨body110, (List.forall_mem_cons.2 ⟨body181, (by intro q h; cases h)⟩)⟩)⟩) (List.forall_mem_cons.2 ⟨@sat_ix b m hook0 hm hk, (List.forall_mem_cons.2 ⟨@sat_ixl b m hook0 hm hk, (List.forall_mem_cons.2 ⟨@sat_co b m hook0 hm hk, (by intro q h; cases h)⟩)⟩)⟩))
theorem sat_m0a (hm : b.w.cell? ⟨0, 0, none⟩ = some (.int .i64 m)) (hk : b.Keeps Tryz.prog laidL tot) : @Sat hookA Tryz.prog b 121 4 := ⟨PrimOk.none (k := 0), fun a r hr => ⟨@row_ok hook0 _ laidL 121 key0 r (tab0_ok a r hr), fun _ _ _ hrel hs ho => @memo_of hook0 _ (rows_ok hook0 rfl) mixed g64 laidL tot 121 r key0 _ (sum0 (b := Base.at _ _) (cell_keeps hk hm gm_lt ho) (.of_at (hk.world hs ho))) (hk.world hs ho) _ _ hrel (tab0_ok a r hr)⟩⟩
theorem sat_m0b (hm : b.w.cell? ⟨0, 0, none⟩ = some (.int .i64 m)) (hk : b.Keeps Tryz.prog laidL tot) : @Sat hookM Tryz.prog b 121 4 := ⟨PrimOk.none (k := 0), fun a r hr => ⟨@row_ok hook0 _ laidL 121 key0 r (tab0_ok a r hr), fun _ _ _ hrel hs ho => @memo_of hook0 _ (rows_ok hook0 rfl) mixed g64 laidL tot 121 r key0 _ (sum0 (b := Base.at _ _) (cell_keeps hk hm gm_lt ho) (.of_at (hk.world hs ho))) (hk.world hs ho) _ _ hrel (tab0_ok a r hr)⟩⟩
theorem sumA (hm : b.w.cell? ⟨0, 0, none⟩ = some (.int .i64 m)) (hk : b.Keeps Tryz.prog laidL tot) : @SumOk Tryz.prog hookA b :=
  @sumOk_of hookA _ _ (@sums_of hookA _ b sumLA rfl (List.forall_mem_cons.2 ⟨body121, (List.forall_mem_cons.2 ⟨body217, (List.forall_mem_cons.2 ⟨body393, (List.forall_mem_cons.2 ⟨body60, (List.forall_mem_cons.2 ⟨body110, (List.forall_mem_cons.2 ⟨body181, (by intro q h; cases h)⟩)⟩)⟩)⟩)⟩)⟩) (List.forall_mem_cons.2 ⟨sat_m0a hm hk, (List.forall_mem_cons.2 ⟨(⟨@sortedStr_ok Tryz.prog b 217 9 isItS (sortedAtS b), fun _ r hr => by cases hr⟩ : @Sat hookA Tryz.prog b 217 6), (List.forall_mem_cons.2 ⟨(⟨@repeatP_ok Tryz.prog b 393 (repeat_at b), fun _ r hr => by cases hr⟩ : @Sat hookA Tryz.prog b 393 7), (List.forall_mem_cons.2 ⟨@sat_ix b m hookA hm hk, (List.forall_mem_cons.2 ⟨@sat_ixl b m hookA hm hk, (List.forall_mem_cons.2 ⟨@sat_co b m hookA hm hk, (by intro q h; cases h)⟩)⟩)⟩)⟩)⟩)⟩))
/-- 'awake' answers true, in whatever world -/
theorem awake_ok (hm : W.cell? ⟨0, 0, none⟩ = some (.int .i64 m)) (hL : LaidOk Tryz.prog laidL tot W) : Calls Tryz.prog 4 #[] W fun e w' => e = .returned (.bool true) ∧ Grew W w' :=
  @truth_of hookA _ (rows_ok hookA rfl) mixed g64 laidL tot 4 [] [] W (sumA (b := Base.at W _) hm (.of_at hL)) hL .nil _ awake_run
theorem sat_aw [Hook] (hm : b.w.cell? ⟨0, 0, none⟩ = some (.int .i64 m)) (hk : b.Keeps Tryz.prog laidL tot) : Sat Tryz.prog b 4 3 := fun _ hs ho => awake_ok (cell_keeps hk hm gm_lt ho) (hk.world hs ho)
theorem sumM (hm : b.w.cell? ⟨0, 0, none⟩ = some (.int .i64 m)) (hk : b.Keeps Tryz.prog laidL tot) : @SumOk Tryz.prog hookM b :=
  @sumOk_of hookM _ _ (@sums_of hookM _ b sumLM rfl (List.forall_mem_cons.2 ⟨body4, (List.forall_mem_cons.2 ⟨body121, (List.forall_mem_cons.2 ⟨body217, (List.forall_mem_cons.2 ⟨body393, (List.forall_mem_cons.2 ⟨body60, (List.forall_mem_cons.2 ⟨body110, (List.forall_mem_cons.2 ⟨body181, (by intro q h; cases h)⟩)⟩)⟩)⟩)⟩)⟩)⟩) (List.forall_mem_cons.2 ⟨@sat_aw b m hookM hm hk, (List.forall_mem_cons.2 ⟨sat_m0b hm hk, (List.forall_mem_cons.2 ⟨(⟨@sortedStr_ok Tryz.prog b 217 9 isItS (sortedAtS b), fun _ r hr => by cases hr⟩ : @Sat hookM Tryz.prog b 217 6), (List.forall_mem_cons.2 ⟨(⟨@repeatP_ok Tryz.prog b 393 (repeat_at b), fun _ r hr => by cases hr⟩ : @Sat hookM Tryz.prog b 393 7), (List.forall_mem_cons.2 ⟨@sat_ix b m hookM hm hk, (List.forall_mem_cons.2 ⟨@sat_ixl b m hookM hm hk, (List.forall_mem_cons.2 ⟨@sat_co b m hookM hm hk, (by intro q h; cases h)⟩)⟩)⟩)⟩)⟩)⟩)⟩))
/-- the law answers true, in whatever world -/
theorem law_ok (hm : W.cell? ⟨0, 0, none⟩ = some (.int .i64 m)) (hL : LaidOk Tryz.prog laidL tot W) (x1 : Int) (x2 : Int) (w1 : (Lit.int .u8 x1).wf = true) : Calls Tryz.prog 3 ⟨[.int .u8 x1, .int .i64 x2]⟩ W fun e w' => e = .returned (.bool true) ∧ Grew W w' := by
  have key : ∀ av : List AV, RelL (startRho tot Tryz.prog.globals.size) av [.int .u8 x1, .int .i64 x2] → @runF Tryz.prog hookM isTrue 500000 (startSt Tryz.prog laidL 3 av) = true → Calls Tryz.prog 3 ⟨[.int .u8 x1, .int .i64 x2]⟩ W fun e w' => e = .returned (.bool true) ∧ Grew W w' :=
    fun av hr hrun => @truth_of hookM _ (rows_ok hookM rfl) mixed g64 laidL tot 3 av [.int .u8 x1, .int .i64 x2] W (sumM (b := Base.at W _) hm (.of_at hL)) hL hr _ hrun
  obtain ⟨j1, l1, rfl⟩ : ∃ j1 : Nat, j1 < 256 ∧ x1 = Int.ofNat j1 := ⟨x1.toNat, by have := bounds_u8 w1; omega, (Int.toNat_of_nonneg (bounds_u8 w1).1).symm⟩
  obtain ⟨j2, l2, h2⟩ := red_and 3 (by decide) x2
  obtain rfl | rfl | rfl | rfl : j2 = 0 ∨ j2 = 1 ∨ j2 = 2 ∨ j2 = 3 := by omega
  · skip
    have a0 := chunk_0_0
    have a1 := allFrom_join a0 chunk_0_9
    have a2 := allFrom_join a1 chunk_0_18
    have a3 := allFrom_join a2 chunk_0_27
    have a4 := allFrom_join a3 chunk_0_36
    have a5 := allFrom_join a4 chunk_0_45
    have a6 := allFrom_join a5 chunk_0_54
    have a7 := allFrom_join a6 chunk_0_63
    have a8 := allFrom_join a7 chunk_0_72
    have a9 := allFrom_join a8 chunk_0_81
    have a10 := allFrom_join a9 chunk_0_90
    have a11 := allFrom_join a10 chunk_0_99
    have a12 := allFrom_join a11 chunk_0_108
    have a13 := allFrom_join a12 chunk_0_117
    have a14 := allFrom_join a13 chunk_0_126
    have a15 := allFrom_join a14 chunk_0_135
    have a16 := allFrom_join a15 chunk_0_144
    have a17 := allFrom_join a16 chunk_0_153
    have a18 := allFrom_join a17 chunk_0_162
    have a19 := allFrom_join a18 chunk_0_171
    have a20 := allFrom_join a19 chunk_0_180
    have a21 := allFrom_join a20 chunk_0_189
    have a22 := allFrom_join a21 chunk_0_198
    have a23 := allFrom_join a22 chunk_0_207
    have a24 := allFrom_join a23 chunk_0_216
    have a25 := allFrom_join a24 chunk_0_225
    have a26 := allFrom_join a25 chunk_0_234
    have a27 := allFrom_join a26 chunk_0_243
    have a28 := allFrom_join a27 chunk_0_252
    exact key [.int .u8 (Int.ofNat j1), .red .i64 true 3 0] (.cons _ _ _ _ (.int _ _) (.cons _ _ _ _ (.red _ _ _ _ _ h2) .nil)) (allFrom_spec a28 j1 (Nat.zero_le _) (by omega))
  · skip
    have a0 := chunk_1_0
    have a1 := allFrom_join a0 chunk_1_8
    have a2 := allFrom_join a1 chunk_1_16
    have a3 := allFrom_join a2 chunk_1_24
    have a4 := allFrom_join a3 chunk_1_32
    have a5 := allFrom_join a4 chunk_1_40
    have a6 := allFrom_join a5 chunk_1_48
    have a7 := allFrom_join a6 chunk_1_56
    have a8 := allFrom_join a7 chunk_1_64
    have a9 := allFrom_join a8 chunk_1_72
    have a10 := allFrom_join a9 chunk_1_80
    have a11 := allFrom_join a10 chunk_1_88
    have a12 := allFrom_join a11 chunk_1_96
    have a13 := allFrom_join a12 chunk_1_104
    have a14 := allFrom_join a13 chunk_1_112
    have a15 := allFrom_join a14 chunk_1_120
    have a16 := allFrom_join a15 chunk_1_128
    have a17 := allFrom_join a16 chunk_1_136
    have a18 := allFrom_join a17 chunk_1_144
    have a19 := allFrom_join a18 chunk_1_152
    have a20 := allFrom_join a19 chunk_1_160
    have a21 := allFrom_join a20 chunk_1_168
    have a22 := allFrom_join a21 chunk_1_176
    have a23 := allFrom_join a22 chunk_1_184
    have a24 := allFrom_join a23 chunk_1_192
    have a25 := allFrom_join a24 chunk_1_200
    have a26 := allFrom_join a25 chunk_1_208
    have a27 := allFrom_join a26 chunk_1_216
    have a28 := allFrom_join a27 chunk_1_224
    have a29 := allFrom_join a28 chunk_1_232
    have a30 := allFrom_join a29 chunk_1_240
    have a31 := allFrom_join a30 chunk_1_248
    exact key [.int .u8 (Int.ofNat j1), .red .i64 true 3 1] (.cons _ _ _ _ (.int _ _) (.cons _ _ _ _ (.red _ _ _ _ _ h2) .nil)) (allFrom_spec a31 j1 (Nat.zero_le _) (by omega))
  · skip
    have a0 := chunk_2_0
    have a1 := allFrom_join a0 chunk_2_7
    have a2 := allFrom_join a1 chunk_2_14
    have a3 := allFrom_join a2 chunk_2_21
    have a4 := allFrom_join a3 chunk_2_28
    have a5 := allFrom_join a4 chunk_2_35
    have a6 := allFrom_join a5 chunk_2_42
    have a7 := allFrom_join a6 chunk_2_49
    have a8 := allFrom_join a7 chunk_2_56
    have a9 := allFrom_join a8 chunk_2_63
    have a10 := allFrom_join a9 chunk_2_70
    have a11 := allFrom_join a10 chunk_2_77
    have a12 := allFrom_join a11 chunk_2_84
    have a13 := allFrom_join a12 chunk_2_91
    have a14 := allFrom_join a13 chunk_2_98
    have a15 := allFrom_join a14 chunk_2_105
    have a16 := allFrom_join a15 chunk_2_112
    have a17 := allFrom_join a16 chunk_2_119
    have a18 := allFrom_join a17 chunk_2_126
    have a19 := allFrom_join a18 chunk_2_133
    have a20 := allFrom_join a19 chunk_2_140
    have a21 := allFrom_join a20 chunk_2_147
    have a22 := allFrom_join a21 chunk_2_154
    have a23 := allFrom_join a22 chunk_2_161
    have a24 := allFrom_join a23 chunk_2_168
    have a25 := allFrom_join a24 chunk_2_175
    have a26 := allFrom_join a25 chunk_2_182
    have a27 := allFrom_join a26 chunk_2_189
    have a28 := allFrom_join a27 chunk_2_196
    have a29 := allFrom_join a28 chunk_2_203
    have a30 := allFrom_join a29 chunk_2_210
    have a31 := allFrom_join a30 chunk_2_217
    have a32 := allFrom_join a31 chunk_2_224
    have a33 := allFrom_join a32 chunk_2_231
    have a34 := allFrom_join a33 chunk_2_238
    have a35 := allFrom_join a34 chunk_2_245
    have a36 := allFrom_join a35 chunk_2_252
    exact key [.int .u8 (Int.ofNat j1), .red .i64 true 3 2] (.cons _ _ _ _ (.int _ _) (.cons _ _ _ _ (.red _ _ _ _ _ h2) .nil)) (allFrom_spec a36 j1 (Nat.zero_le _) (by omega))
  · skip
    have a0 := chunk_3_0
    have a1 := allFrom_join a0 chunk_3_6
    have a2 := allFrom_join a1 chunk_3_12
    have a3 := allFrom_join a2 chunk_3_18
    have a4 := allFrom_join a3 chunk_3_24
    have a5 := allFrom_join a4 chunk_3_30
    have a6 := allFrom_join a5 chunk_3_36
    have a7 := allFrom_join a6 chunk_3_42
    have a8 := allFrom_join a7 chunk_3_48
    have a9 := allFrom_join a8 chunk_3_54
    have a10 := allFrom_join a9 chunk_3_60
    have a11 := allFrom_join a10 chunk_3_66
    have a12 := allFrom_join a11 chunk_3_72
    have a13 := allFrom_join a12 chunk_3_78
    have a14 := allFrom_join a13 chunk_3_84
    have a15 := allFrom_join a14 chunk_3_90
    have a16 := allFrom_join a15 chunk_3_96
    have a17 := allFrom_join a16 chunk_3_102
    have a18 := allFrom_join a17 chunk_3_108
    have a19 := allFrom_join a18 chunk_3_114
    have a20 := allFrom_join a19 chunk_3_120
    have a21 := allFrom_join a20 chunk_3_126
    have a22 := allFrom_join a21 chunk_3_132
    have a23 := allFrom_join a22 chunk_3_138
    have a24 := allFrom_join a23 chunk_3_144
    have a25 := allFrom_join a24 chunk_3_150
    have a26 := allFrom_join a25 chunk_3_156
    have a27 := allFrom_join a26 chunk_3_162
    have a28 := allFrom_join a27 chunk_3_168
    have a29 := allFrom_join a28 chunk_3_174
    have a30 := allFrom_join a29 chunk_3_180
    have a31 := allFrom_join a30 chunk_3_186
    have a32 := allFrom_join a31 chunk_3_192
    have a33 := allFrom_join a32 chunk_3_198
    have a34 := allFrom_join a33 chunk_3_204
    have a35 := allFrom_join a34 chunk_3_210
    have a36 := allFrom_join a35 chunk_3_216
    have a37 := allFrom_join a36 chunk_3_222
    have a38 := allFrom_join a37 chunk_3_228
    have a39 := allFrom_join a38 chunk_3_234
    have a40 := allFrom_join a39 chunk_3_240
    have a41 := allFrom_join a40 chunk_3_246
    have a42 := allFrom_join a41 chunk_3_252
    exact key [.int .u8 (Int.ofNat j1), .red .i64 true 3 3] (.cons _ _ _ _ (.int _ _) (.cons _ _ _ _ (.red _ _ _ _ _ h2) .nil)) (allFrom_spec a42 j1 (Nat.zero_le _) (by omega))
end
theorem own : ownKnob Tryz.prog.godebug = none := by kernel_rfl
theorem gSpace : Tryz.prog.globalNamed "strings.asciiSpace" = some 4 := by kernel_rfl
theorem tSpace : (Tryz.prog.globals[4]?).map (·.type) = some 318 := by kernel_rfl
theorem lSpace : spaceZ.length = 256 := by kernel_rfl
theorem dSpace : (Rows.laid_strings_asciiSpace : DataW Unit) = .agg (spaceZ.map fun z => .lit (.int .u8 z)) := by kernel_rfl
theorem laid_of {W : World} (hs : Tryz.prog.globals.size ≤ W.heap.size) (h : laidMetH Tryz.prog Rows.consoleTellsRow.laid W) : LaidOk Tryz.prog laidL tot W := by
  rw [MakeChecks.laidMetH_plain _ _ _ (by kernel_rfl)] at h
  obtain ⟨ps, ⟨_, _, _, _, _, _, _, _, _, _, ⟨_, _, _, _, _, _, _, _, _, _, ⟨g, t, cs, fuel, p, q, hg, ht, hv, hd, _, _⟩, _⟩, _⟩, _, _⟩ := h
  obtain rfl := Option.some.inj (gSpace.symm.trans hg)
  obtain rfl := Option.some.inj (tSpace.symm.trans ht)
  rw [dSpace] at hd
  have hT := table_of gSpace hv Tryz.underlying318 Tryz.underlying5 (by kernel_rfl) (by kernel_rfl) lSpace hd
  refine ⟨hs, fun g o _ hl N ρ => ?_⟩
  by_cases e : g = 4
  · subst e
    obtain rfl : AObj.fixed 0 (spaceZ.map fun z => AV.int .u8 z) = o := Option.some.inj hl
    exact hT N ρ
  · have hne : (g == 4) = false := by simpa using e
    simp only [laidL, List.lookup, hne] at hl
    cases hl
theorem heap_size {W : World} (h : W.ShapedOpen Tryz.prog) : Tryz.prog.globals.size ≤ W.heap.size := by
  obtain ⟨o, _, ho, _⟩ := h.2 _ (Nat.le_refl _) (of_decide_eq_true (by kernel_rfl))
  exact Nat.le_of_lt (Array.getElem?_eq_some_iff.1 ho).1
set_option maxRecDepth 100000 in
theorem lifted (os : Os) (started : os.Started) (H : Type) (enc : TypeId × Value → H) :
    ReturnsInHanded {} Tryz.checked os 3 .any (fun w args => (Rows.consoleTellsSpec.pre enc Tryz.prog Tryz.f3 Rows.consoleTellsRow.domain false w args ∧ laidMetH Tryz.prog Rows.consoleTellsRow.laid w) ∧ sizedMet enc Tryz.prog Tryz.f3 (OpenSpec.ofChange Rows.consoleTellsSpec) false w args)
      (Rows.consoleTellsSpec.post enc Tryz.prog Tryz.f3 false true false false) := by
  refine handed_of (C := Tryz.checked) (X := fun w _ => laidMetH Tryz.prog Rows.consoleTellsRow.laid w) (fun _ _ _ hh h => h.of_heap hh) own started (by kernel_rfl) Tryz.func3
    (ChangeSpec.witness_shaped (enc := enc) (C := Tryz.checked) (os := os) (X := fun w _ => laidMetH Tryz.prog Rows.consoleTellsRow.laid w) false (World.laidAll Tryz.prog os Rows.consoleTellsRow.laid) #[.int .u8 0, .int .i64 0] 8 (World.laidAll_os _ _ _)
      (World.shaped_of_ZipB (by kernel_rfl) (by kernel_rfl)) (by kernel_rfl) (by kernel_rfl) (by kernel_rfl)
      (by rw [MakeChecks.laidMetH_plain _ _ _ (by kernel_rfl)]; exact laidMet_laidAll _ (by kernel_rfl) (by kernel_rfl))) ?_
  intro W base args ds gs before hval0 hW hL hsh
  have hW' := hW
  obtain ⟨p, q, hA0, hV, rfl, _, _⟩ := hW
  have hA : DataW.TrodAll enc Tryz.prog W 0 (fun _ => true) true Tryz.f3.params.toList args.toList ds p := hA0
  rw [Tryz.params3] at hA
  obtain ⟨u1, u2, d1, d2, p1, p2, rfl, rfl, rfl, hd1, hd2⟩ := trodAll_two hA
  obtain ⟨x1, rfl, rfl, rfl, wf1⟩ := open_int Tryz.underlying5 (hval0 0 _ _ (by rw [← Array.getElem?_toList, Tryz.params3]; rfl) rfl) hd1
  obtain ⟨x2, rfl, rfl, rfl, wf2⟩ := open_int Tryz.underlying3 (hval0 1 _ _ (by rw [← Array.getElem?_toList, Tryz.params3]; rfl) rfl) hd2
  obtain ⟨rfl, rfl⟩ := trodVars_none hV
  obtain ⟨m, hm⟩ := Tryz.laysM143.s1_3 W hsh
  refine (law_ok hm (laid_of (heap_size hsh) hL) x1 x2 wf1).mono fun e W' ⟨he, hg⟩ => ?_
  subst he
  exact ⟨_, rfl, post_of_grew hW' (fun _ _ _ => trodAll_mk1 (shut_bool Tryz.underlying4 _)) (fun _ => by rw [Tryz.params3]; exact (trodAll_cons_mk (shut_int Tryz.underlying5 wf1) (trodAll_cons_mk (shut_int Tryz.underlying3 wf2) trodAll_mk0))) (fun _ => rfl) hg⟩
end Go.Proofs.YtlihfgobifchiaaGreatDoor

/- ModelFull answers true, and nothing that was there is turned: the contract, out of the evaluator's runs, and its lift to the row's form. Conditions: those of the given row (the listed variables read as listed). -/
import Derived.Test.YtckbhajndplkiaaGreatDoorFuRA
import Derived.Test.YtckbhajndplkiaaGreatDoorFuMT
import Derived.Test.YtckbhajndplkiaaGreatDoorFuRM0
import Derived.Test.YtckbhajndplkiaaGreatDoorFuRM1
import Derived.Test.YtckbhajndplkiaaGreatDoorFuRM2
import Derived.Test.YtckbhajndplkiaaGreatDoorFuRM3
import Derived.Test.YtckbhajndplkiaaGreatDoorFuRM4
import Derived.Test.YtckbhajndplkiaaGreatDoorFuRM5
import Derived.Test.YtckbhajndplkiaaGreatDoorFuRM6
import Derived.Test.YtckbhajndplkiaaGreatDoorFuRM7
import Derived.Test.YtckbhajndplkiaaGreatDoorRows
import Derived.SevenTiedAt
import Derived.Stop.Joined
namespace Go.Proofs.YtckbhajndplkiaaGreatDoor
open Go.ChangeShapes Go.WideShapes Go.ChangeAt Go.RowKit Go.VM
theorem mixed : Tryz.prog.follows .mixedOrders = true := by kernel_rfl
theorem g64 : Tryz.prog.globals.size ≤ 64 := by decide +kernel
theorem row336 : Extern.findNext Tryz.f336 = none ∧ Extern.find Tryz.f336 = some Extern.BytealgIndexByte.indexByte := ⟨by kernel_rfl, by kernel_rfl⟩
theorem vm336 : vmRow 4 Tryz.f336 = some Extern.BytealgIndexByte.indexByte := rfl
theorem row349 : Extern.findNext Tryz.f349 = none ∧ Extern.find Tryz.f349 = some (Extern.BytealgMakeNoZero.makeNoZero Tryz.f349.params Tryz.f349.resultTypes) := ⟨by kernel_rfl, by kernel_rfl⟩
theorem vm349 : vmRow 5 Tryz.f349 = some (Extern.BytealgMakeNoZero.makeNoZero Tryz.f349.params Tryz.f349.resultTypes) := rfl
theorem row382 : Extern.findNext Tryz.f382 = none ∧ Extern.find Tryz.f382 = some Extern.MathFloatBits.float64bits := ⟨by kernel_rfl, by kernel_rfl⟩
theorem vm382 : vmRow 1 Tryz.f382 = some Extern.MathFloatBits.float64bits := rfl
theorem row356 : Extern.findNext Tryz.f356 = none ∧ Extern.find Tryz.f356 = some Extern.MathFloatBits.float64frombits := ⟨by kernel_rfl, by kernel_rfl⟩
theorem vm356 : vmRow 2 Tryz.f356 = some Extern.MathFloatBits.float64frombits := rfl
theorem row281 : Extern.findNext Tryz.f281 = none ∧ Extern.find Tryz.f281 = some Extern.AbiNoEscape.same := ⟨by kernel_rfl, by kernel_rfl⟩
theorem vm281 : vmRow 3 Tryz.f281 = some Extern.AbiNoEscape.same := rfl
theorem row400 : Extern.findNext Tryz.f400 = none ∧ Extern.find Tryz.f400 = some (Extern.MathFloor.toIntegral "math.archTrunc" .zero) := ⟨by kernel_rfl, by kernel_rfl⟩
theorem vm400 : vmRow 6 Tryz.f400 = some (Extern.MathFloor.toIntegral "math.archTrunc" .zero) := rfl
theorem rows_ok (H : Hook) (hH : H.exts = lookN extL) : @RowsOk H Tryz.prog := by
  refine @rowsOk_of H _ extL (fun f => by show H.exts f = _; rw [hH]) fun f k hm fd hp impl hv => ?_
  simp only [extL, List.mem_cons, List.not_mem_nil, or_false, Prod.mk.injEq] at hm
  rcases hm with ⟨rfl, rfl⟩ | ⟨rfl, rfl⟩ | ⟨rfl, rfl⟩ | ⟨rfl, rfl⟩ | ⟨rfl, rfl⟩ | ⟨rfl, rfl⟩
  · rw [Tryz.func336] at hp; cases hp; rw [vm336] at hv; cases hv; exact row336
  · rw [Tryz.func349] at hp; cases hp; rw [vm349] at hv; cases hv; exact row349
  · rw [Tryz.func382] at hp; cases hp; rw [vm382] at hv; cases hv; exact row382
  · rw [Tryz.func356] at hp; cases hp; rw [vm356] at hv; cases hv; exact row356
  · rw [Tryz.func281] at hp; cases hp; rw [vm281] at hv; cases hv; exact row281
  · rw [Tryz.func400] at hp; cases hp; rw [vm400] at hv; cases hv; exact row400
theorem body11 : ∃ c, bodyOf Tryz.prog 11 = some c := body_of Tryz.func11 (by kernel_rfl) (by kernel_rfl)
theorem body12 : ∃ c, bodyOf Tryz.prog 12 = some c := body_of Tryz.func12 (by kernel_rfl) (by kernel_rfl)
theorem body122 : ∃ c, bodyOf Tryz.prog 122 = some c := body_of Tryz.func122 (by kernel_rfl) (by kernel_rfl)
theorem body278 : ∃ c, bodyOf Tryz.prog 278 = some c := body_of Tryz.func278 (by kernel_rfl) (by kernel_rfl)
theorem body324 : ∃ c, bodyOf Tryz.prog 324 = some c := body_of Tryz.func324 (by kernel_rfl) (by kernel_rfl)
theorem body202 : ∃ c, bodyOf Tryz.prog 202 = some c := body_of Tryz.func202 (by kernel_rfl) (by kernel_rfl)
theorem gm_lt : 0 < Tryz.prog.globals.size := by decide +kernel
section
variable {W : World} {m : Int}
theorem sat_ix [Hook] (hm : W.cell? ⟨0, 0, none⟩ = some (.int .i64 m)) (hsz : 0 < W.heap.size) : Sat Tryz.prog W 278 1 := fun s sub w _ ho hl => Any.strings_Index { Tryz.laysM143 with } s sub m w hl (cell_old hm hsz ho)
theorem sat_ixl [Hook] (hm : W.cell? ⟨0, 0, none⟩ = some (.int .i64 m)) (hsz : 0 < W.heap.size) : Sat Tryz.prog W 324 1 := fun s sub w _ ho hl => Any.stringslite_Index { Tryz.laysM219 with } s sub m w hl (cell_old hm hsz ho)
theorem sat_co [Hook] (hm : W.cell? ⟨0, 0, none⟩ = some (.int .i64 m)) (hsz : 0 < W.heap.size) : Sat Tryz.prog W 202 2 := fun s sub w _ ho hl => Any.strings_Contains { Tryz.laysM144 with } s sub m w hl (cell_old hm hsz ho)
theorem sum0 (hm : W.cell? ⟨0, 0, none⟩ = some (.int .i64 m)) (hL : LaidOk Tryz.prog laidL tot W) : @SumOk Tryz.prog hook0 W :=
  have hlt := Nat.lt_of_lt_of_le gm_lt hL.1
  @sumOk_of hook0 _ _ (@sums_of hook0 _ W sumL rfl (List.forall_mem_cons.2 ⟨body278, (List.forall_mem_cons.2 ⟨body324, (List.forall_mem_cons.2 ⟨body202, (by intro q h; cases h)⟩)⟩)⟩) (List.forall_mem_cons.2 ⟨@sat_ix W m hook0 hm hlt, (List.forall_mem_cons.2 ⟨@sat_ixl W m hook0 hm hlt, (List.forall_mem_cons.2 ⟨@sat_co W m hook0 hm hlt, (by intro q h; cases h)⟩)⟩)⟩))
theorem sat_m0a (hm : W.cell? ⟨0, 0, none⟩ = some (.int .i64 m)) (hL : LaidOk Tryz.prog laidL tot W) : @Sat hookA Tryz.prog W 122 4 := ⟨PrimOk.none (k := 0), fun a r hr => ⟨@row_ok hook0 _ laidL 122 key0 r (tab0_ok a r hr), fun _ _ _ hrel hs ho => @memo_of hook0 _ (rows_ok hook0 rfl) mixed g64 laidL tot 122 r key0 _ (sum0 (cell_old hm (Nat.lt_of_lt_of_le gm_lt hL.1) ho) (hL.of_old hs ho)) (hL.of_old hs ho) _ _ hrel (tab0_ok a r hr)⟩⟩
theorem sat_m0b (hm : W.cell? ⟨0, 0, none⟩ = some (.int .i64 m)) (hL : LaidOk Tryz.prog laidL tot W) : @Sat hookM Tryz.prog W 122 4 := ⟨PrimOk.none (k := 0), fun a r hr => ⟨@row_ok hook0 _ laidL 122 key0 r (tab0_ok a r hr), fun _ _ _ hrel hs ho => @memo_of hook0 _ (rows_ok hook0 rfl) mixed g64 laidL tot 122 r key0 _ (sum0 (cell_old hm (Nat.lt_of_lt_of_le gm_lt hL.1) ho) (hL.of_old hs ho)) (hL.of_old hs ho) _ _ hrel (tab0_ok a r hr)⟩⟩
theorem sumA (hm : W.cell? ⟨0, 0, none⟩ = some (.int .i64 m)) (hL : LaidOk Tryz.prog laidL tot W) : @SumOk Tryz.prog hookA W :=
  have hlt := Nat.lt_of_lt_of_le gm_lt hL.1
  @sumOk_of hookA _ _ (@sums_of hookA _ W sumLA rfl (List.forall_mem_cons.2 ⟨body122, (List.forall_mem_cons.2 ⟨body278, (List.forall_mem_cons.2 ⟨body324, (List.forall_mem_cons.2 ⟨body202, (by intro q h; cases h)⟩)⟩)⟩)⟩) (List.forall_mem_cons.2 ⟨sat_m0a hm hL, (List.forall_mem_cons.2 ⟨@sat_ix W m hookA hm hlt, (List.forall_mem_cons.2 ⟨@sat_ixl W m hookA hm hlt, (List.forall_mem_cons.2 ⟨@sat_co W m hookA hm hlt, (by intro q h; cases h)⟩)⟩)⟩)⟩))
/-- 'awake' answers true, in whatever world -/
theorem awake_ok (hm : W.cell? ⟨0, 0, none⟩ = some (.int .i64 m)) (hL : LaidOk Tryz.prog laidL tot W) : Calls Tryz.prog 11 #[] W fun e w' => e = .returned (.bool true) ∧ Grew W w' :=
  @truth_of hookA _ (rows_ok hookA rfl) mixed g64 laidL tot 11 [] [] W (sumA hm hL) hL .nil _ awake_run
theorem sat_aw [Hook] (hm : W.cell? ⟨0, 0, none⟩ = some (.int .i64 m)) (hL : LaidOk Tryz.prog laidL tot W) : Sat Tryz.prog W 11 3 := fun _ hs ho => awake_ok (cell_old hm (Nat.lt_of_lt_of_le gm_lt hL.1) ho) (hL.of_old hs ho)
theorem sat_face (hm : W.cell? ⟨0, 0, none⟩ = some (.int .i64 m)) (hL : LaidOk Tryz.prog laidL tot W) : @Sat hookM Tryz.prog W 12 5 := by
  refine ⟨PrimOk.none (k := 1), fun _ r hr => ?_⟩
  have hr : r ∈ [faceRow] := hr
  obtain rfl : r = faceRow := by simpa using hr
  exact ⟨@row_ok hookA _ laidL 12 key4 faceRow face_run, fun _ _ _ hrel hs ho => @memo_of hookA _ (rows_ok hookA rfl) mixed g64 laidL tot 12 faceRow key4 _ (sumA (cell_old hm (Nat.lt_of_lt_of_le gm_lt hL.1) ho) (hL.of_old hs ho)) (hL.of_old hs ho) _ _ hrel face_run⟩
theorem sumM (hm : W.cell? ⟨0, 0, none⟩ = some (.int .i64 m)) (hL : LaidOk Tryz.prog laidL tot W) : @SumOk Tryz.prog hookM W :=
  have hlt := Nat.lt_of_lt_of_le gm_lt hL.1
  @sumOk_of hookM _ _ (@sums_of hookM _ W sumLM rfl (List.forall_mem_cons.2 ⟨body11, (List.forall_mem_cons.2 ⟨body12, (List.forall_mem_cons.2 ⟨body122, (List.forall_mem_cons.2 ⟨body278, (List.forall_mem_cons.2 ⟨body324, (List.forall_mem_cons.2 ⟨body202, (by intro q h; cases h)⟩)⟩)⟩)⟩)⟩)⟩) (List.forall_mem_cons.2 ⟨@sat_aw W m hookM hm hL, (List.forall_mem_cons.2 ⟨sat_face hm hL, (List.forall_mem_cons.2 ⟨sat_m0b hm hL, (List.forall_mem_cons.2 ⟨@sat_ix W m hookM hm hlt, (List.forall_mem_cons.2 ⟨@sat_ixl W m hookM hm hlt, (List.forall_mem_cons.2 ⟨@sat_co W m hookM hm hlt, (by intro q h; cases h)⟩)⟩)⟩)⟩)⟩)⟩))
/-- the law answers true, in whatever world -/
theorem law_ok (hm : W.cell? ⟨0, 0, none⟩ = some (.int .i64 m)) (hL : LaidOk Tryz.prog laidL tot W) (x1 : Int) : Calls Tryz.prog 8 ⟨[.int .i64 x1]⟩ W fun e w' => e = .returned (.bool true) ∧ Grew W w' := by
  have key : ∀ av : List AV, RelL (startRho tot Tryz.prog.globals.size) av [.int .i64 x1] → @runF Tryz.prog hookM isTrue 500000 (startSt Tryz.prog laidL 8 av) = true → Calls Tryz.prog 8 ⟨[.int .i64 x1]⟩ W fun e w' => e = .returned (.bool true) ∧ Grew W w' :=
    fun av hr hrun => @truth_of hookM _ (rows_ok hookM rfl) mixed g64 laidL tot 8 av [.int .i64 x1] W (sumM hm hL) hL hr _ hrun
  obtain ⟨j1, l1, h1⟩ := red_rem 32 (by decide) x1
  obtain rfl | rfl | rfl | rfl | rfl | rfl | rfl | rfl | rfl | rfl | rfl | rfl | rfl | rfl | rfl | rfl | rfl | rfl | rfl | rfl | rfl | rfl | rfl | rfl | rfl | rfl | rfl | rfl | rfl | rfl | rfl | rfl : j1 = 0 ∨ j1 = 1 ∨ j1 = 2 ∨ j1 = 3 ∨ j1 = 4 ∨ j1 = 5 ∨ j1 = 6 ∨ j1 = 7 ∨ j1 = 8 ∨ j1 = 9 ∨ j1 = 10 ∨ j1 = 11 ∨ j1 = 12 ∨ j1 = 13 ∨ j1 = 14 ∨ j1 = 15 ∨ j1 = 16 ∨ j1 = 17 ∨ j1 = 18 ∨ j1 = 19 ∨ j1 = 20 ∨ j1 = 21 ∨ j1 = 22 ∨ j1 = 23 ∨ j1 = 24 ∨ j1 = 25 ∨ j1 = 26 ∨ j1 = 27 ∨ j1 = 28 ∨ j1 = 29 ∨ j1 = 30 ∨ j1 = 31 := by omega
  · skip
    exact key [.red .i64 false 32 0] (.cons _ _ _ _ (.red _ _ _ _ _ h1) .nil) main_run_0
  · skip
    exact key [.red .i64 false 32 1] (.cons _ _ _ _ (.red _ _ _ _ _ h1) .nil) main_run_1
  · skip
    exact key [.red .i64 false 32 2] (.cons _ _ _ _ (.red _ _ _ _ _ h1) .nil) main_run_2
  · skip
    exact key [.red .i64 false 32 3] (.cons _ _ _ _ (.red _ _ _ _ _ h1) .nil) main_run_3
  · skip
    exact key [.red .i64 false 32 4] (.cons _ _ _ _ (.red _ _ _ _ _ h1) .nil) main_run_4
  · skip
    exact key [.red .i64 false 32 5] (.cons _ _ _ _ (.red _ _ _ _ _ h1) .nil) main_run_5
  · skip
    exact key [.red .i64 false 32 6] (.cons _ _ _ _ (.red _ _ _ _ _ h1) .nil) main_run_6
  · skip
    exact key [.red .i64 false 32 7] (.cons _ _ _ _ (.red _ _ _ _ _ h1) .nil) main_run_7
  · skip
    exact key [.red .i64 false 32 8] (.cons _ _ _ _ (.red _ _ _ _ _ h1) .nil) main_run_8
  · skip
    exact key [.red .i64 false 32 9] (.cons _ _ _ _ (.red _ _ _ _ _ h1) .nil) main_run_9
  · skip
    exact key [.red .i64 false 32 10] (.cons _ _ _ _ (.red _ _ _ _ _ h1) .nil) main_run_10
  · skip
    exact key [.red .i64 false 32 11] (.cons _ _ _ _ (.red _ _ _ _ _ h1) .nil) main_run_11
  · skip
    exact key [.red .i64 false 32 12] (.cons _ _ _ _ (.red _ _ _ _ _ h1) .nil) main_run_12
  · skip
    exact key [.red .i64 false 32 13] (.cons _ _ _ _ (.red _ _ _ _ _ h1) .nil) main_run_13
  · skip
    exact key [.red .i64 false 32 14] (.cons _ _ _ _ (.red _ _ _ _ _ h1) .nil) main_run_14
  · skip
    exact key [.red .i64 false 32 15] (.cons _ _ _ _ (.red _ _ _ _ _ h1) .nil) main_run_15
  · skip
    exact key [.red .i64 false 32 16] (.cons _ _ _ _ (.red _ _ _ _ _ h1) .nil) main_run_16
  · skip
    exact key [.red .i64 false 32 17] (.cons _ _ _ _ (.red _ _ _ _ _ h1) .nil) main_run_17
  · skip
    exact key [.red .i64 false 32 18] (.cons _ _ _ _ (.red _ _ _ _ _ h1) .nil) main_run_18
  · skip
    exact key [.red .i64 false 32 19] (.cons _ _ _ _ (.red _ _ _ _ _ h1) .nil) main_run_19
  · skip
    exact key [.red .i64 false 32 20] (.cons _ _ _ _ (.red _ _ _ _ _ h1) .nil) main_run_20
  · skip
    exact key [.red .i64 false 32 21] (.cons _ _ _ _ (.red _ _ _ _ _ h1) .nil) main_run_21
  · skip
    exact key [.red .i64 false 32 22] (.cons _ _ _ _ (.red _ _ _ _ _ h1) .nil) main_run_22
  · skip
    exact key [.red .i64 false 32 23] (.cons _ _ _ _ (.red _ _ _ _ _ h1) .nil) main_run_23
  · skip
    exact key [.red .i64 false 32 24] (.cons _ _ _ _ (.red _ _ _ _ _ h1) .nil) main_run_24
  · skip
    exact key [.red .i64 false 32 25] (.cons _ _ _ _ (.red _ _ _ _ _ h1) .nil) main_run_25
  · skip
    exact key [.red .i64 false 32 26] (.cons _ _ _ _ (.red _ _ _ _ _ h1) .nil) main_run_26
  · skip
    exact key [.red .i64 false 32 27] (.cons _ _ _ _ (.red _ _ _ _ _ h1) .nil) main_run_27
  · skip
    exact key [.red .i64 false 32 28] (.cons _ _ _ _ (.red _ _ _ _ _ h1) .nil) main_run_28
  · skip
    exact key [.red .i64 false 32 29] (.cons _ _ _ _ (.red _ _ _ _ _ h1) .nil) main_run_29
  · skip
    exact key [.red .i64 false 32 30] (.cons _ _ _ _ (.red _ _ _ _ _ h1) .nil) main_run_30
  · skip
    exact key [.red .i64 false 32 31] (.cons _ _ _ _ (.red _ _ _ _ _ h1) .nil) main_run_31
end
theorem own : ownKnob Tryz.prog.godebug = none := by kernel_rfl
theorem gSpace : Tryz.prog.globalNamed "strings.asciiSpace" = some 1 := by kernel_rfl
theorem tSpace : (Tryz.prog.globals[1]?).map (·.type) = some 369 := by kernel_rfl
theorem lSpace : spaceZ.length = 256 := by kernel_rfl
theorem dSpace : (Rows.laid_strings_asciiSpace : DataW Unit) = .agg (spaceZ.map fun z => .lit (.int .u8 z)) := by kernel_rfl
theorem laid_of {W : World} (hs : Tryz.prog.globals.size ≤ W.heap.size) (h : laidMetH Tryz.prog Rows.modelFullRow.laid W) : LaidOk Tryz.prog laidL tot W := by
  rw [MakeChecks.laidMetH_plain _ _ _ (by kernel_rfl)] at h
  obtain ⟨ps, ⟨_, _, _, _, _, _, _, _, _, _, ⟨_, _, _, _, _, _, _, _, _, _, ⟨g, t, cs, fuel, p, q, hg, ht, hv, hd, _, _⟩, _⟩, _⟩, _, _⟩ := h
  obtain rfl := Option.some.inj (gSpace.symm.trans hg)
  obtain rfl := Option.some.inj (tSpace.symm.trans ht)
  rw [dSpace] at hd
  have hT := table_of gSpace hv Tryz.underlying369 Tryz.underlying5 (by kernel_rfl) (by kernel_rfl) lSpace hd
  refine ⟨hs, fun g o _ hl N ρ => ?_⟩
  by_cases e : g = 1
  · subst e
    obtain rfl : AObj.fixed 0 (spaceZ.map fun z => AV.int .u8 z) = o := Option.some.inj hl
    exact hT N ρ
  · have hne : (g == 1) = false := by simpa using e
    simp only [laidL, List.lookup, hne] at hl
    cases hl
theorem heap_size {W : World} (h : W.ShapedOpen Tryz.prog) : Tryz.prog.globals.size ≤ W.heap.size := by
  obtain ⟨o, _, ho, _⟩ := h.2 _ (Nat.le_refl _) (of_decide_eq_true (by kernel_rfl))
  exact Nat.le_of_lt (Array.getElem?_eq_some_iff.1 ho).1
set_option maxRecDepth 100000 in
theorem lifted (os : Os) (started : os.Started) (H : Type) (enc : TypeId × Value → H) :
    ReturnsInHanded {} Tryz.checked os 8 .any (fun w args => (Rows.modelFullSpec.pre enc Tryz.prog Tryz.f8 Rows.modelFullRow.domain false w args ∧ laidMetH Tryz.prog Rows.modelFullRow.laid w) ∧ sizedMet enc Tryz.prog Tryz.f8 (OpenSpec.ofChange Rows.modelFullSpec) false w args)
      (Rows.modelFullSpec.post enc Tryz.prog Tryz.f8 false true false false) := by
  refine handed_of (C := Tryz.checked) (X := fun w _ => laidMetH Tryz.prog Rows.modelFullRow.laid w) (fun _ _ _ hh h => h.of_heap hh) own started (by kernel_rfl) Tryz.func8
    (ChangeSpec.witness_shaped (enc := enc) (C := Tryz.checked) (os := os) (X := fun w _ => laidMetH Tryz.prog Rows.modelFullRow.laid w) false (World.laidAll Tryz.prog os Rows.modelFullRow.laid) #[.int .i64 0] 8 (World.laidAll_os _ _ _)
      (World.shaped_of_ZipB (by kernel_rfl) (by kernel_rfl)) (by kernel_rfl) (by kernel_rfl) (by kernel_rfl)
      (by rw [MakeChecks.laidMetH_plain _ _ _ (by kernel_rfl)]; exact laidMet_laidAll _ (by kernel_rfl) (by kernel_rfl))) ?_
  intro W base args ds gs before hval0 hW hL hsh
  have hW' := hW
  obtain ⟨p, q, hA0, hV, rfl, _, _⟩ := hW
  have hA : DataW.TrodAll enc Tryz.prog W 0 (fun _ => true) true Tryz.f8.params.toList args.toList ds p := hA0
  rw [Tryz.params8] at hA
  obtain ⟨u1, d1, rfl, rfl, hd1⟩ := trodAll_one hA
  obtain ⟨x1, rfl, rfl, rfl, wf1⟩ := open_int Tryz.underlying3 (hval0 0 _ _ (by rw [← Array.getElem?_toList, Tryz.params8]; rfl) rfl) hd1
  obtain ⟨rfl, rfl⟩ := trodVars_none hV
  obtain ⟨m, hm⟩ := Tryz.laysM143.s1_3 W hsh
  refine (law_ok hm (laid_of (heap_size hsh) hL) x1).mono fun e W' ⟨he, hg⟩ => ?_
  subst he
  exact ⟨_, rfl, post_of_grew hW' (fun _ _ _ => trodAll_mk1 (shut_bool Tryz.underlying4 _)) (fun _ => by rw [Tryz.params8]; exact (trodAll_cons_mk (shut_int Tryz.underlying3 wf1) trodAll_mk0)) (fun _ => rfl) hg⟩
end Go.Proofs.YtckbhajndplkiaaGreatDoor

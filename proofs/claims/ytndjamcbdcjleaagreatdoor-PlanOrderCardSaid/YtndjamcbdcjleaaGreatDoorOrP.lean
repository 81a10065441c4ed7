/- PlanOrder answers true, and nothing that was there is turned: the contract, out of the evaluator's runs, and its lift to the row's form. Conditions: those of the given row (the listed variables read as listed). -/
import Derived.Test.YtndjamcbdcjleaaGreatDoorOrRA
import Derived.Test.YtndjamcbdcjleaaGreatDoorOrMT
import Derived.Test.YtndjamcbdcjleaaGreatDoorOrRM0
import Derived.Test.YtndjamcbdcjleaaGreatDoorRows
import Derived.SevenTiedAt
import Derived.Stop.Joined
namespace Go.Proofs.YtndjamcbdcjleaaGreatDoor
open Go.ChangeShapes Go.WideShapes Go.ChangeAt Go.RowKit Go.VM
theorem mixed : Tryz.prog.follows .mixedOrders = true := by kernel_rfl
theorem g64 : Tryz.prog.globals.size ≤ 64 := by decide +kernel
theorem row252 : Extern.findNext Tryz.f252 = none ∧ Extern.find Tryz.f252 = some Extern.BytealgIndexByte.indexByte := ⟨by kernel_rfl, by kernel_rfl⟩
theorem vm252 : vmRow 4 Tryz.f252 = some Extern.BytealgIndexByte.indexByte := rfl
theorem row236 : Extern.findNext Tryz.f236 = none ∧ Extern.find Tryz.f236 = some (Extern.BytealgMakeNoZero.makeNoZero Tryz.f236.params Tryz.f236.resultTypes) := ⟨by kernel_rfl, by kernel_rfl⟩
theorem vm236 : vmRow 5 Tryz.f236 = some (Extern.BytealgMakeNoZero.makeNoZero Tryz.f236.params Tryz.f236.resultTypes) := rfl
theorem row257 : Extern.findNext Tryz.f257 = none ∧ Extern.find Tryz.f257 = some Extern.MathFloatBits.float64bits := ⟨by kernel_rfl, by kernel_rfl⟩
theorem vm257 : vmRow 1 Tryz.f257 = some Extern.MathFloatBits.float64bits := rfl
theorem row222 : Extern.findNext Tryz.f222 = none ∧ Extern.find Tryz.f222 = some Extern.MathFloatBits.float64frombits := ⟨by kernel_rfl, by kernel_rfl⟩
theorem vm222 : vmRow 2 Tryz.f222 = some Extern.MathFloatBits.float64frombits := rfl
theorem row235 : Extern.findNext Tryz.f235 = none ∧ Extern.find Tryz.f235 = some Extern.AbiNoEscape.same := ⟨by kernel_rfl, by kernel_rfl⟩
theorem vm235 : vmRow 3 Tryz.f235 = some Extern.AbiNoEscape.same := rfl
theorem row290 : Extern.findNext Tryz.f290 = none ∧ Extern.find Tryz.f290 = some (Extern.MathFloor.toIntegral "math.archTrunc" .zero) := ⟨by kernel_rfl, by kernel_rfl⟩
theorem vm290 : vmRow 6 Tryz.f290 = some (Extern.MathFloor.toIntegral "math.archTrunc" .zero) := rfl
theorem rows_ok (H : Hook) (hH : H.exts = lookN extL) : @RowsOk H Tryz.prog := by
  refine @rowsOk_of H _ extL (fun f => by show H.exts f = _; rw [hH]) fun f k hm fd hp impl hv => ?_
  simp only [extL, List.mem_cons, List.not_mem_nil, or_false, Prod.mk.injEq] at hm
  rcases hm with ⟨rfl, rfl⟩ | ⟨rfl, rfl⟩ | ⟨rfl, rfl⟩ | ⟨rfl, rfl⟩ | ⟨rfl, rfl⟩ | ⟨rfl, rfl⟩
  · rw [Tryz.func252] at hp; cases hp; rw [vm252] at hv; cases hv; exact row252
  · rw [Tryz.func236] at hp; cases hp; rw [vm236] at hv; cases hv; exact row236
  · rw [Tryz.func257] at hp; cases hp; rw [vm257] at hv; cases hv; exact row257
  · rw [Tryz.func222] at hp; cases hp; rw [vm222] at hv; cases hv; exact row222
  · rw [Tryz.func235] at hp; cases hp; rw [vm235] at hv; cases hv; exact row235
  · rw [Tryz.func290] at hp; cases hp; rw [vm290] at hv; cases hv; exact row290
theorem body6 : ∃ c, bodyOf Tryz.prog 6 = some c := body_of Tryz.func6 (by kernel_rfl) (by kernel_rfl)
theorem body56 : ∃ c, bodyOf Tryz.prog 56 = some c := body_of Tryz.func56 (by kernel_rfl) (by kernel_rfl)
theorem body240 : ∃ c, bodyOf Tryz.prog 240 = some c := body_of Tryz.func240 (by kernel_rfl) (by kernel_rfl)
theorem body242 : ∃ c, bodyOf Tryz.prog 242 = some c := body_of Tryz.func242 (by kernel_rfl) (by kernel_rfl)
theorem body114 : ∃ c, bodyOf Tryz.prog 114 = some c := body_of Tryz.func114 (by kernel_rfl) (by kernel_rfl)
theorem body172 : ∃ c, bodyOf Tryz.prog 172 = some c := body_of Tryz.func172 (by kernel_rfl) (by kernel_rfl)
theorem body77 : ∃ c, bodyOf Tryz.prog 77 = some c := body_of Tryz.func77 (by kernel_rfl) (by kernel_rfl)
theorem gm_lt : 0 < Tryz.prog.globals.size := by decide +kernel
section
variable {W : World} {m : Int}
theorem sat_ix [Hook] (hm : W.cell? ⟨0, 0, none⟩ = some (.int .i64 m)) (hsz : 0 < W.heap.size) : Sat Tryz.prog W 114 1 := fun s sub w _ ho hl => Any.strings_Index { Tryz.laysM143 with } s sub m w hl (cell_old hm hsz ho)
theorem sat_ixl [Hook] (hm : W.cell? ⟨0, 0, none⟩ = some (.int .i64 m)) (hsz : 0 < W.heap.size) : Sat Tryz.prog W 172 1 := fun s sub w _ ho hl => Any.stringslite_Index { Tryz.laysM219 with } s sub m w hl (cell_old hm hsz ho)
theorem sat_co [Hook] (hm : W.cell? ⟨0, 0, none⟩ = some (.int .i64 m)) (hsz : 0 < W.heap.size) : Sat Tryz.prog W 77 2 := fun s sub w _ ho hl => Any.strings_Contains { Tryz.laysM144 with } s sub m w hl (cell_old hm hsz ho)
theorem sum0 (hm : W.cell? ⟨0, 0, none⟩ = some (.int .i64 m)) (hL : LaidOk Tryz.prog laidL tot W) : @SumOk Tryz.prog hook0 W :=
  have hlt := Nat.lt_of_lt_of_le gm_lt hL.1
  @sumOk_of hook0 _ _ (@sums_of hook0 _ W sumL rfl (List.forall_mem_cons.2 ⟨body114, (List.forall_mem_cons.2 ⟨body172, (List.forall_mem_cons.2 ⟨body77, (by intro q h; cases h)⟩)⟩)⟩) (List.forall_mem_cons.2 ⟨@sat_ix W m hook0 hm hlt, (List.forall_mem_cons.2 ⟨@sat_ixl W m hook0 hm hlt, (List.forall_mem_cons.2 ⟨@sat_co W m hook0 hm hlt, (by intro q h; cases h)⟩)⟩)⟩))
theorem sat_m0a (hm : W.cell? ⟨0, 0, none⟩ = some (.int .i64 m)) (hL : LaidOk Tryz.prog laidL tot W) : @Sat hookA Tryz.prog W 56 4 := ⟨PrimOk.none (k := 0), fun a r hr => ⟨@row_ok hook0 _ laidL 56 key0 r (tab0_ok a r hr), fun _ _ _ hrel hs ho => @memo_of hook0 _ (rows_ok hook0 rfl) mixed g64 laidL tot 56 r key0 _ (sum0 (cell_old hm (Nat.lt_of_lt_of_le gm_lt hL.1) ho) (hL.of_old hs ho)) (hL.of_old hs ho) _ _ hrel (tab0_ok a r hr)⟩⟩
theorem sat_m0b (hm : W.cell? ⟨0, 0, none⟩ = some (.int .i64 m)) (hL : LaidOk Tryz.prog laidL tot W) : @Sat hookM Tryz.prog W 56 4 := ⟨PrimOk.none (k := 0), fun a r hr => ⟨@row_ok hook0 _ laidL 56 key0 r (tab0_ok a r hr), fun _ _ _ hrel hs ho => @memo_of hook0 _ (rows_ok hook0 rfl) mixed g64 laidL tot 56 r key0 _ (sum0 (cell_old hm (Nat.lt_of_lt_of_le gm_lt hL.1) ho) (hL.of_old hs ho)) (hL.of_old hs ho) _ _ hrel (tab0_ok a r hr)⟩⟩
theorem sumA (hm : W.cell? ⟨0, 0, none⟩ = some (.int .i64 m)) (hL : LaidOk Tryz.prog laidL tot W) : @SumOk Tryz.prog hookA W :=
  have hlt := Nat.lt_of_lt_of_le gm_lt hL.1
  @sumOk_of hookA _ _ (@sums_of hookA _ W sumLA rfl (List.forall_mem_cons.2 ⟨body56, (List.forall_mem_cons.2 ⟨body240, (List.forall_mem_cons.2 ⟨body242, (List.forall_mem_cons.2 ⟨body114, (List.forall_mem_cons.2 ⟨body172, (List.forall_mem_cons.2 ⟨body77, (by intro q h; cases h)⟩)⟩)⟩)⟩)⟩)⟩) (List.forall_mem_cons.2 ⟨sat_m0a hm hL, (List.forall_mem_cons.2 ⟨(⟨@sortedStr_ok Tryz.prog W 240 9 isItS (sortedAtS W), fun _ r hr => by cases hr⟩ : @Sat hookA Tryz.prog W 240 6), (List.forall_mem_cons.2 ⟨(⟨@repeatP_ok Tryz.prog W 242 (repeat_at W), fun _ r hr => by cases hr⟩ : @Sat hookA Tryz.prog W 242 7), (List.forall_mem_cons.2 ⟨@sat_ix W m hookA hm hlt, (List.forall_mem_cons.2 ⟨@sat_ixl W m hookA hm hlt, (List.forall_mem_cons.2 ⟨@sat_co W m hookA hm hlt, (by intro q h; cases h)⟩)⟩)⟩)⟩)⟩)⟩))
/-- 'awake' answers true, in whatever world -/
theorem awake_ok (hm : W.cell? ⟨0, 0, none⟩ = some (.int .i64 m)) (hL : LaidOk Tryz.prog laidL tot W) : Calls Tryz.prog 6 #[] W fun e w' => e = .returned (.bool true) ∧ Grew W w' :=
  @truth_of hookA _ (rows_ok hookA rfl) mixed g64 laidL tot 6 [] [] W (sumA hm hL) hL .nil _ awake_run
theorem sat_aw [Hook] (hm : W.cell? ⟨0, 0, none⟩ = some (.int .i64 m)) (hL : LaidOk Tryz.prog laidL tot W) : Sat Tryz.prog W 6 3 := fun _ hs ho => awake_ok (cell_old hm (Nat.lt_of_lt_of_le gm_lt hL.1) ho) (hL.of_old hs ho)
theorem sumM (hm : W.cell? ⟨0, 0, none⟩ = some (.int .i64 m)) (hL : LaidOk Tryz.prog laidL tot W) : @SumOk Tryz.prog hookM W :=
  have hlt := Nat.lt_of_lt_of_le gm_lt hL.1
  @sumOk_of hookM _ _ (@sums_of hookM _ W sumLM rfl (List.forall_mem_cons.2 ⟨body6, (List.forall_mem_cons.2 ⟨body56, (List.forall_mem_cons.2 ⟨body240, (List.forall_mem_cons.2 ⟨body242, (List.forall_mem_cons.2 ⟨body114, (List.forall_mem_cons.2 ⟨body172, (List.forall_mem_cons.2 ⟨body77, (by intro q h; cases h)⟩)⟩)⟩)⟩)⟩)⟩)⟩) (List.forall_mem_cons.2 ⟨@sat_aw W m hookM hm hL, (List.forall_mem_cons.2 ⟨sat_m0b hm hL, (List.forall_mem_cons.2 ⟨(⟨@sortedStr_ok Tryz.prog W 240 9 isItS (sortedAtS W), fun _ r hr => by cases hr⟩ : @Sat hookM Tryz.prog W 240 6), (List.forall_mem_cons.2 ⟨(⟨@repeatP_ok Tryz.prog W 242 (repeat_at W), fun _ r hr => by cases hr⟩ : @Sat hookM Tryz.prog W 242 7), (List.forall_mem_cons.2 ⟨@sat_ix W m hookM hm hlt, (List.forall_mem_cons.2 ⟨@sat_ixl W m hookM hm hlt, (List.forall_mem_cons.2 ⟨@sat_co W m hookM hm hlt, (by intro q h; cases h)⟩)⟩)⟩)⟩)⟩)⟩)⟩))
/-- the law answers true, in whatever world -/
theorem law_ok (hm : W.cell? ⟨0, 0, none⟩ = some (.int .i64 m)) (hL : LaidOk Tryz.prog laidL tot W) (x1 : Int) : Calls Tryz.prog 3 ⟨[.int .i64 x1]⟩ W fun e w' => e = .returned (.bool true) ∧ Grew W w' := by
  have key : ∀ av : List AV, RelL (startRho tot Tryz.prog.globals.size) av [.int .i64 x1] → @runF Tryz.prog hookM isTrue 500000 (startSt Tryz.prog laidL 3 av) = true → Calls Tryz.prog 3 ⟨[.int .i64 x1]⟩ W fun e w' => e = .returned (.bool true) ∧ Grew W w' :=
    fun av hr hrun => @truth_of hookM _ (rows_ok hookM rfl) mixed g64 laidL tot 3 av [.int .i64 x1] W (sumM hm hL) hL hr _ hrun
  obtain ⟨j1, l1, h1⟩ := red_and 0 (by decide) x1
  obtain rfl : j1 = 0 := by omega
  exact key [.red .i64 true 0 0] (.cons _ _ _ _ (.red _ _ _ _ _ h1) .nil) main_run_0
end
theorem own : ownKnob Tryz.prog.godebug = none := by kernel_rfl
theorem gSpace : Tryz.prog.globalNamed "strings.asciiSpace" = some 1 := by kernel_rfl
theorem tSpace : (Tryz.prog.globals[1]?).map (·.type) = some 260 := by kernel_rfl
theorem lSpace : spaceZ.length = 256 := by kernel_rfl
theorem dSpace : (Rows.laid_strings_asciiSpace : DataW Unit) = .agg (spaceZ.map fun z => .lit (.int .u8 z)) := by kernel_rfl
theorem laid_of {W : World} (hs : Tryz.prog.globals.size ≤ W.heap.size) (h : laidMetH Tryz.prog Rows.planOrderRow.laid W) : LaidOk Tryz.prog laidL tot W := by
  rw [MakeChecks.laidMetH_plain _ _ _ (by kernel_rfl)] at h
  obtain ⟨ps, ⟨_, _, _, _, _, _, _, _, _, _, ⟨_, _, _, _, _, _, _, _, _, _, ⟨g, t, cs, fuel, p, q, hg, ht, hv, hd, _, _⟩, _⟩, _⟩, _, _⟩ := h
  obtain rfl := Option.some.inj (gSpace.symm.trans hg)
  obtain rfl := Option.some.inj (tSpace.symm.trans ht)
  rw [dSpace] at hd
  have hT := table_of gSpace hv Tryz.underlying260 Tryz.underlying5 (by kernel_rfl) (by kernel_rfl) lSpace hd
  refine ⟨hs, fun g o _ hl N ρ => ?_⟩
  by_cases e : g = 1
  · subst e
    obtain rfl : AObj.fixed 0 (spaceZ.map fun z => AV.int .u8 z) = o := Option.some.inj hl
    exact hT N ρ
  · have hne : (g == 1) = false := by simpa using e
    simp only [laidL, List.lookup, hne] at hl
    cases hl
theorem heap_size {W : World} (h : W.ShapedOpen Tryz.prog) : Tryz.prog.globals.size ≤ W.heap.size := by
  obtain ⟨o, _, ho, _⟩ := h.2 _ (Nat.le_refl _) (of_decide_eq_true (by kernel_rfl))
  exact Nat.le_of_lt (Array.getElem?_eq_some_iff.1 ho).1
set_option maxRecDepth 100000 in
theorem lifted (os : Os) (started : os.Started) (H : Type) (enc : TypeId × Value → H) :
    ReturnsInHanded {} Tryz.checked os 3 .any (fun w args => (Rows.planOrderSpec.pre enc Tryz.prog Tryz.f3 Rows.planOrderRow.domain false w args ∧ laidMetH Tryz.prog Rows.planOrderRow.laid w) ∧ sizedMet enc Tryz.prog Tryz.f3 (OpenSpec.ofChange Rows.planOrderSpec) false w args)
      (Rows.planOrderSpec.post enc Tryz.prog Tryz.f3 false true false false) := by
  refine handed_of (C := Tryz.checked) (X := fun w _ => laidMetH Tryz.prog Rows.planOrderRow.laid w) (fun _ _ _ hh h => h.of_heap hh) own started (by kernel_rfl) Tryz.func3
    (ChangeSpec.witness_shaped (enc := enc) (C := Tryz.checked) (os := os) (X := fun w _ => laidMetH Tryz.prog Rows.planOrderRow.laid w) false (World.laidAll Tryz.prog os Rows.planOrderRow.laid) #[.int .i64 0] 8 (World.laidAll_os _ _ _)
      (World.shaped_of_ZipB (by kernel_rfl) (by kernel_rfl)) (by kernel_rfl) (by kernel_rfl) (by kernel_rfl)
      (by rw [MakeChecks.laidMetH_plain _ _ _ (by kernel_rfl)]; exact laidMet_laidAll _ (by kernel_rfl) (by kernel_rfl))) ?_
  intro W base args ds gs before hval0 hW hL hsh
  have hW' := hW
  obtain ⟨p, q, hA0, hV, rfl, _, _⟩ := hW
  have hA : DataW.TrodAll enc Tryz.prog W 0 (fun _ => true) true Tryz.f3.params.toList args.toList ds p := hA0
  rw [Tryz.params3] at hA
  obtain ⟨u1, d1, rfl, rfl, hd1⟩ := trodAll_one hA
  obtain ⟨x1, rfl, rfl, rfl, wf1⟩ := open_int Tryz.underlying3 (hval0 0 _ _ (by rw [← Array.getElem?_toList, Tryz.params3]; rfl) rfl) hd1
  obtain ⟨rfl, rfl⟩ := trodVars_none hV
  obtain ⟨m, hm⟩ := Tryz.laysM143.s1_3 W hsh
  refine (law_ok hm (laid_of (heap_size hsh) hL) x1).mono fun e W' ⟨he, hg⟩ => ?_
  subst he
  exact ⟨_, rfl, post_of_grew hW' (fun _ _ _ => trodAll_mk1 (shut_bool Tryz.underlying4 _)) (fun _ => by rw [Tryz.params3]; exact (trodAll_cons_mk (shut_int Tryz.underlying3 wf1) trodAll_mk0)) (fun _ => rfl) hg⟩
end Go.Proofs.YtndjamcbdcjleaaGreatDoor

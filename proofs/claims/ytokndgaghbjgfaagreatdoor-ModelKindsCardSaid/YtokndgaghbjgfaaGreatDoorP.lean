/- ModelKinds answers true, and nothing that was there is turned: the contract, out of the evaluator's runs, and its lift to the row's form. Conditions: those of the given row (the listed variables read as listed). -/
import Derived.Test.YtokndgaghbjgfaaGreatDoorRA
import Derived.Test.YtokndgaghbjgfaaGreatDoorRM
import Derived.Test.YtokndgaghbjgfaaGreatDoorRows
import Derived.SevenTiedAt
import Derived.Stop.Joined
namespace Go.Proofs.YtokndgaghbjgfaaGreatDoor
open Go.ChangeShapes Go.WideShapes Go.ChangeAt Go.RowKit Go.VM
theorem mixed : Tryz.prog.follows .mixedOrders = true := by kernel_rfl
theorem g64 : Tryz.prog.globals.size ≤ 64 := by decide +kernel
theorem row319 : Extern.findNext Tryz.f319 = none ∧ Extern.find Tryz.f319 = some Extern.BytealgIndexByte.indexByte := ⟨by kernel_rfl, by kernel_rfl⟩
theorem vm319 : vmRow 4 Tryz.f319 = some Extern.BytealgIndexByte.indexByte := rfl
theorem row332 : Extern.findNext Tryz.f332 = none ∧ Extern.find Tryz.f332 = some (Extern.BytealgMakeNoZero.makeNoZero Tryz.f332.params Tryz.f332.resultTypes) := ⟨by kernel_rfl, by kernel_rfl⟩
theorem vm332 : vmRow 5 Tryz.f332 = some (Extern.BytealgMakeNoZero.makeNoZero Tryz.f332.params Tryz.f332.resultTypes) := rfl
theorem row365 : Extern.findNext Tryz.f365 = none ∧ Extern.find Tryz.f365 = some Extern.MathFloatBits.float64bits := ⟨by kernel_rfl, by kernel_rfl⟩
theorem vm365 : vmRow 1 Tryz.f365 = some Extern.MathFloatBits.float64bits := rfl
theorem row339 : Extern.findNext Tryz.f339 = none ∧ Extern.find Tryz.f339 = some Extern.MathFloatBits.float64frombits := ⟨by kernel_rfl, by kernel_rfl⟩
theorem vm339 : vmRow 2 Tryz.f339 = some Extern.MathFloatBits.float64frombits := rfl
theorem row264 : Extern.findNext Tryz.f264 = none ∧ Extern.find Tryz.f264 = some Extern.AbiNoEscape.same := ⟨by kernel_rfl, by kernel_rfl⟩
theorem vm264 : vmRow 3 Tryz.f264 = some Extern.AbiNoEscape.same := rfl
theorem row383 : Extern.findNext Tryz.f383 = none ∧ Extern.find Tryz.f383 = some (Extern.MathFloor.toIntegral "math.archTrunc" .zero) := ⟨by kernel_rfl, by kernel_rfl⟩
theorem vm383 : vmRow 6 Tryz.f383 = some (Extern.MathFloor.toIntegral "math.archTrunc" .zero) := rfl
theorem rows_ok (H : Hook) (hH : H.exts = lookN extL) : @RowsOk H Tryz.prog := by
  refine @rowsOk_of H _ extL (fun f => by show H.exts f = _; rw [hH]) fun f k hm fd hp impl hv => ?_
  simp only [extL, List.mem_cons, List.not_mem_nil, or_false, Prod.mk.injEq] at hm
  rcases hm with ⟨rfl, rfl⟩ | ⟨rfl, rfl⟩ | ⟨rfl, rfl⟩ | ⟨rfl, rfl⟩ | ⟨rfl, rfl⟩ | ⟨rfl, rfl⟩
  · rw [Tryz.func319] at hp; cases hp; rw [vm319] at hv; cases hv; exact row319
  · rw [Tryz.func332] at hp; cases hp; rw [vm332] at hv; cases hv; exact row332
  · rw [Tryz.func365] at hp; cases hp; rw [vm365] at hv; cases hv; exact row365
  · rw [Tryz.func339] at hp; cases hp; rw [vm339] at hv; cases hv; exact row339
  · rw [Tryz.func264] at hp; cases hp; rw [vm264] at hv; cases hv; exact row264
  · rw [Tryz.func383] at hp; cases hp; rw [vm383] at hv; cases hv; exact row383
theorem body261 : ∃ c, bodyOf Tryz.prog 261 = some c := body_of Tryz.func261 (by kernel_rfl) (by kernel_rfl)
theorem body307 : ∃ c, bodyOf Tryz.prog 307 = some c := body_of Tryz.func307 (by kernel_rfl) (by kernel_rfl)
theorem body185 : ∃ c, bodyOf Tryz.prog 185 = some c := body_of Tryz.func185 (by kernel_rfl) (by kernel_rfl)
theorem body4 : ∃ c, bodyOf Tryz.prog 4 = some c := body_of Tryz.func4 (by kernel_rfl) (by kernel_rfl)
theorem sum_mem {l : List (Nat × Nat)} {f k : Nat} (h : lookN l f = k) (h0 : k ≠ 0) : (f, k) ∈ l := lookN_mem h h0
/-- the contracts, with or without the one of 'awake' -/
theorem sums {W : World} {m : Int} (hm : W.cell? ⟨0, 0, none⟩ = some (.int .i64 m)) (hsz : 0 < W.heap.size) (H : Hook) (hH : H.sums = lookN sumL ∨ H.sums = lookN ((4, 3) :: sumL))
    (aw : ∀ w : World, W.heap.size ≤ w.heap.size → (∀ k, k < W.heap.size → w.heap[k]? = W.heap[k]?) → H.sums = lookN ((4, 3) :: sumL) → Calls Tryz.prog 4 #[] w fun e w' => e = .returned (.bool true) ∧ Grew w w') : @Sums H Tryz.prog W := by
  have key : ∀ f k, H.sums f = k → k ≠ 0 → f = 261 ∧ k = 1 ∨ f = 307 ∧ k = 1 ∨ f = 185 ∧ k = 2 ∨ f = 4 ∧ k = 3 ∧ H.sums = lookN ((4, 3) :: sumL) := by
    intro f k hk h0
    rcases hH with e | e
    · rw [e] at hk
      have := sum_mem hk h0
      simp only [sumL, List.mem_cons, List.not_mem_nil, or_false, Prod.mk.injEq] at this
      rcases this with h | h | h
      · exact .inl h
      · exact .inr (.inl h)
      · exact .inr (.inr (.inl h))
    · have hk' := hk
      rw [e] at hk'
      have := sum_mem hk' h0
      simp only [sumL, List.mem_cons, List.not_mem_nil, or_false, Prod.mk.injEq] at this
      rcases this with h | h | h | h
      · exact .inr (.inr (.inr ⟨h.1, h.2, e⟩))
      · exact .inl h
      · exact .inr (.inl h)
      · exact .inr (.inr (.inl h))
  refine @Sums.mk H _ _ ?_ ?_ ?_ ?_
  · intro f h
    rcases key f _ rfl h with ⟨rfl, _⟩ | ⟨rfl, _⟩ | ⟨rfl, _⟩ | ⟨rfl, _, _⟩
    · exact body261
    · exact body307
    · exact body185
    · exact body4
  · intro f h s sub w hs ho hl
    rcases key f 1 h (by decide) with ⟨rfl, _⟩ | ⟨rfl, _⟩ | ⟨rfl, e⟩ | ⟨rfl, e, _⟩
    · exact Any.strings_Index { Tryz.laysM143 with } s sub m w hl (cell_old hm hsz ho)
    · exact Any.stringslite_Index { Tryz.laysM219 with } s sub m w hl (cell_old hm hsz ho)
    · cases e
    · cases e
  · intro f h s sub w hs ho hl
    rcases key f 2 h (by decide) with ⟨rfl, e⟩ | ⟨rfl, e⟩ | ⟨rfl, _⟩ | ⟨rfl, e, _⟩
    · cases e
    · cases e
    · exact Any.strings_Contains { Tryz.laysM144 with } s sub m w hl (cell_old hm hsz ho)
    · cases e
  · intro f h w hs ho
    rcases key f 3 h (by decide) with ⟨rfl, e⟩ | ⟨rfl, e⟩ | ⟨rfl, e⟩ | ⟨rfl, _, e⟩
    · cases e
    · cases e
    · cases e
    · exact aw w hs ho e
theorem grew_of {W : World} {f : Nat} (h : Calls Tryz.prog f #[] W (fun e w' => ∃ ρ' v V h', e = .returned V ∧ Rel ρ' v V ∧ Sim W ρ' h' w' ∧ Glob Tryz.prog ρ' ∧ isTrue v h' = true)) : Calls Tryz.prog f #[] W fun e w' => e = .returned (.bool true) ∧ Grew W w' :=
  h.mono (by
    rintro e w' ⟨ρ, v, V, h, rfl, hv, hs, _, hp⟩
    exact ⟨by rw [isTrue_rel hv hp], Grew.of_sim hs⟩)
theorem gm_lt : 0 < Tryz.prog.globals.size := by decide +kernel
/-- 'awake' answers true, in whatever world -/
theorem awake_ok {W : World} {m : Int} (hm : W.cell? ⟨0, 0, none⟩ = some (.int .i64 m)) (hL : LaidOk Tryz.prog laidL tot W) : Calls Tryz.prog 4 #[] W fun e w' => e = .returned (.bool true) ∧ Grew W w' :=
  grew_of (@runAll_from hookA _ (rows_ok hookA rfl) mixed g64 laidL tot 4 [] [] W (@sumOk_of hookA _ _ (sums hm (Nat.lt_of_lt_of_le gm_lt hL.1) hookA (.inl rfl) (fun _ _ _ e => absurd (congrFun e 4) (by decide)))) _ _ hL .nil awake_run)
/-- the law answers true, in whatever world -/
theorem law_ok {W : World} {m : Int} (hm : W.cell? ⟨0, 0, none⟩ = some (.int .i64 m)) (hL : LaidOk Tryz.prog laidL tot W) : Calls Tryz.prog 3 #[] W fun e w' => e = .returned (.bool true) ∧ Grew W w' :=
  have hlt := Nat.lt_of_lt_of_le gm_lt hL.1
  grew_of (@runAll_from hookM _ (rows_ok hookM rfl) mixed g64 laidL tot 3 [] [] W (@sumOk_of hookM _ _ (sums hm hlt hookM (.inr rfl) (fun w hs ho _ => awake_ok (cell_old hm hlt ho) (hL.of_old hs ho)))) _ _ hL .nil main_run)
theorem own : ownKnob Tryz.prog.godebug = none := by kernel_rfl
theorem gSpace : Tryz.prog.globalNamed "strings.asciiSpace" = some 1 := by kernel_rfl
theorem tSpace : (Tryz.prog.globals[1]?).map (·.type) = some 368 := by kernel_rfl
theorem lSpace : spaceZ.length = 256 := by kernel_rfl
theorem dSpace : (Rows.laid_strings_asciiSpace : DataW Unit) = .agg (spaceZ.map fun z => .lit (.int .u8 z)) := by kernel_rfl
theorem laid_of {W : World} (hs : Tryz.prog.globals.size ≤ W.heap.size) (h : laidMetH Tryz.prog Rows.modelKindsRow.laid W) : LaidOk Tryz.prog laidL tot W := by
  rw [MakeChecks.laidMetH_plain _ _ _ (by kernel_rfl)] at h
  obtain ⟨ps, ⟨_, _, _, _, _, _, _, _, _, _, ⟨_, _, _, _, _, _, _, _, _, _, ⟨g, t, cs, fuel, p, q, hg, ht, hv, hd, _, _⟩, _⟩, _⟩, _, _⟩ := h
  obtain rfl := Option.some.inj (gSpace.symm.trans hg)
  obtain rfl := Option.some.inj (tSpace.symm.trans ht)
  rw [dSpace] at hd
  have hT := table_of gSpace hv Tryz.underlying368 Tryz.underlying5 (by kernel_rfl) (by kernel_rfl) lSpace hd
  refine ⟨hs, fun g o _ hl N ρ => ?_⟩
  by_cases e : g = 1
  · subst e
    obtain rfl : AObj.fixed 0 (spaceZ.map fun z => AV.int .u8 z) = o := Option.some.inj hl
    exact hT N ρ
  · have hne : (g == 1) = false := by simpa using e
    simp only [laidL, List.lookup, hne] at hl
    cases hl
theorem heap_size {W : World} (h : W.ShapedOpen Tryz.prog) : Tryz.prog.globals.size ≤ W.heap.size := by
  obtain ⟨o, _, ho, _⟩ := h.2 _ (Nat.le_refl _) (of_decide_eq_true (by kernel_rfl))
  exact Nat.le_of_lt (Array.getElem?_eq_some_iff.1 ho).1
set_option maxRecDepth 100000 in
theorem lifted (os : Os) (started : os.Started) (H : Type) (enc : TypeId × Value → H) :
    ReturnsInHanded {} Tryz.checked os 3 .any (fun w args => (Rows.modelKindsSpec.pre enc Tryz.prog Tryz.f3 Rows.modelKindsRow.domain false w args ∧ laidMetH Tryz.prog Rows.modelKindsRow.laid w) ∧ sizedMet enc Tryz.prog Tryz.f3 (OpenSpec.ofChange Rows.modelKindsSpec) false w args)
      (Rows.modelKindsSpec.post enc Tryz.prog Tryz.f3 false true false false) := by
  refine handed_of (C := Tryz.checked) (X := fun w _ => laidMetH Tryz.prog Rows.modelKindsRow.laid w) (fun _ _ _ hh h => h.of_heap hh) own started (by kernel_rfl) Tryz.func3
    (ChangeSpec.witness_shaped (enc := enc) (C := Tryz.checked) (os := os) (X := fun w _ => laidMetH Tryz.prog Rows.modelKindsRow.laid w) false (World.laidAll Tryz.prog os Rows.modelKindsRow.laid) #[] 8 (World.laidAll_os _ _ _)
      (World.shaped_of_ZipB (by kernel_rfl) (by kernel_rfl)) (by kernel_rfl) (by kernel_rfl) (by kernel_rfl)
      (by rw [MakeChecks.laidMetH_plain _ _ _ (by kernel_rfl)]; exact laidMet_laidAll _ (by kernel_rfl) (by kernel_rfl))) ?_
  intro W base args ds gs before hval0 hW hL hsh
  have hW' := hW
  obtain ⟨p, q, hA0, hV, rfl, _, _⟩ := hW
  have hA : DataW.TrodAll enc Tryz.prog W 0 (fun _ => true) true Tryz.f3.params.toList args.toList ds p := hA0
  rw [Tryz.params3] at hA
  obtain ⟨rfl, rfl, rfl⟩ := trodAll_none hA
  obtain ⟨rfl, rfl⟩ := trodVars_none hV
  obtain ⟨m, hm⟩ := Tryz.laysM143.s1_3 W hsh
  refine (law_ok hm (laid_of (heap_size hsh) hL)).mono fun e W' ⟨he, hg⟩ => ?_
  subst he
  exact ⟨_, rfl, post_of_grew hW' (fun _ _ _ => trodAll_mk1 (shut_bool Tryz.underlying4 _)) (fun _ => rfl) (fun _ => rfl) hg⟩
end Go.Proofs.YtokndgaghbjgfaaGreatDoor

/- BlobMeets answers true, and nothing that was there is turned: the contract, out of the evaluator's runs, and its lift to the row's form. Conditions: those of the given row (the listed variables read as listed). -/
import Derived.Test.YtdeahggaclcldaaGreatBmRA
import Derived.Test.YtdeahggaclcldaaGreatBmMT
import Derived.Test.YtdeahggaclcldaaGreatBmRM0
import Derived.Test.YtdeahggaclcldaaGreatBmRM1
import Derived.Test.YtdeahggaclcldaaGreatBmRM2
import Derived.Test.YtdeahggaclcldaaGreatBmRM3
import Derived.Test.YtdeahggaclcldaaGreatBmRM4
import Derived.Test.YtdeahggaclcldaaGreatBmRM5
import Derived.Test.YtdeahggaclcldaaGreatBmRM6
import Derived.Test.YtdeahggaclcldaaGreatBmRM7
import Derived.Test.YtdeahggaclcldaaGreatBmRM8
import Derived.Test.YtdeahggaclcldaaGreatBmRM9
import Derived.Test.YtdeahggaclcldaaGreatRows
import Derived.SevenTiedAt
import Derived.Stop.Joined
namespace Go.Proofs.YtdeahggaclcldaaGreat
open Go.ChangeShapes Go.WideShapes Go.ChangeAt Go.RowKit Go.VM
theorem mixed : Tryz.prog.follows .mixedOrders = true := by kernel_rfl
theorem g64 : Tryz.prog.globals.size ≤ 64 := by decide +kernel
theorem row182 : Extern.findNext Tryz.f182 = none ∧ Extern.find Tryz.f182 = some Extern.BytealgIndexByte.indexByte := ⟨by kernel_rfl, by kernel_rfl⟩
theorem vm182 : vmRow 4 Tryz.f182 = some Extern.BytealgIndexByte.indexByte := rfl
theorem row107 : Extern.findNext Tryz.f107 = none ∧ Extern.find Tryz.f107 = some (Extern.BytealgMakeNoZero.makeNoZero Tryz.f107.params Tryz.f107.resultTypes) := ⟨by kernel_rfl, by kernel_rfl⟩
theorem vm107 : vmRow 5 Tryz.f107 = some (Extern.BytealgMakeNoZero.makeNoZero Tryz.f107.params Tryz.f107.resultTypes) := rfl
theorem row106 : Extern.findNext Tryz.f106 = none ∧ Extern.find Tryz.f106 = some Extern.AbiNoEscape.same := ⟨by kernel_rfl, by kernel_rfl⟩
theorem vm106 : vmRow 3 Tryz.f106 = some Extern.AbiNoEscape.same := rfl
theorem rows_ok (H : Hook) (hH : H.exts = lookN extL) : @RowsOk H Tryz.prog := by
  refine @rowsOk_of H _ extL (fun f => by show H.exts f = _; rw [hH]) fun f k hm fd hp impl hv => ?_
  simp only [extL, List.mem_cons, List.not_mem_nil, or_false, Prod.mk.injEq] at hm
  rcases hm with ⟨rfl, rfl⟩ | ⟨rfl, rfl⟩ | ⟨rfl, rfl⟩
  · rw [Tryz.func182] at hp; cases hp; rw [vm182] at hv; cases hv; exact row182
  · rw [Tryz.func107] at hp; cases hp; rw [vm107] at hv; cases hv; exact row107
  · rw [Tryz.func106] at hp; cases hp; rw [vm106] at hv; cases hv; exact row106
theorem body4 : ∃ c, bodyOf Tryz.prog 4 = some c := body_of Tryz.func4 (by kernel_rfl) (by kernel_rfl)
theorem body87 : ∃ c, bodyOf Tryz.prog 87 = some c := body_of Tryz.func87 (by kernel_rfl) (by kernel_rfl)
theorem body125 : ∃ c, bodyOf Tryz.prog 125 = some c := body_of Tryz.func125 (by kernel_rfl) (by kernel_rfl)
theorem body53 : ∃ c, bodyOf Tryz.prog 53 = some c := body_of Tryz.func53 (by kernel_rfl) (by kernel_rfl)
theorem body102 : ∃ c, bodyOf Tryz.prog 102 = some c := body_of Tryz.func102 (by kernel_rfl) (by kernel_rfl)
theorem body26 : ∃ c, bodyOf Tryz.prog 26 = some c := body_of Tryz.func26 (by kernel_rfl) (by kernel_rfl)
theorem body166 : ∃ c, bodyOf Tryz.prog 166 = some c := body_of Tryz.func166 (by kernel_rfl) (by kernel_rfl)
theorem gm_lt : 0 < Tryz.prog.globals.size := by decide +kernel
section
variable {W : World} {m : Int}
theorem sat_ixl [Hook] (hm : W.cell? ⟨0, 0, none⟩ = some (.int .i64 m)) (hsz : 0 < W.heap.size) : Sat Tryz.prog W 166 1 := fun s sub w _ ho hl => Any.stringslite_Index { Tryz.laysM219 with } s sub m w hl (cell_old hm hsz ho)
theorem sum0 (hm : W.cell? ⟨0, 0, none⟩ = some (.int .i64 m)) (hL : LaidOk Tryz.prog laidL tot W) : @SumOk Tryz.prog hook0 W :=
  have hlt := Nat.lt_of_lt_of_le gm_lt hL.1
  @sumOk_of hook0 _ _ (@sums_of hook0 _ W sumL rfl (List.forall_mem_cons.2 ⟨body166, (by intro q h; cases h)⟩) (List.forall_mem_cons.2 ⟨@sat_ixl W m hook0 hm hlt, (by intro q h; cases h)⟩))
theorem sat_m0a (hm : W.cell? ⟨0, 0, none⟩ = some (.int .i64 m)) (hL : LaidOk Tryz.prog laidL tot W) : @Sat hookA Tryz.prog W 87 4 := ⟨PrimOk.none (k := 0), fun a r hr => ⟨@row_ok hook0 _ laidL 87 key0 r (tab0_ok a r hr), fun _ _ _ hrel hs ho => @memo_of hook0 _ (rows_ok hook0 rfl) mixed g64 laidL tot 87 r key0 _ (sum0 (cell_old hm (Nat.lt_of_lt_of_le gm_lt hL.1) ho) (hL.of_old hs ho)) (hL.of_old hs ho) _ _ hrel (tab0_ok a r hr)⟩⟩
theorem sat_m0b (hm : W.cell? ⟨0, 0, none⟩ = some (.int .i64 m)) (hL : LaidOk Tryz.prog laidL tot W) : @Sat hookM Tryz.prog W 87 4 := ⟨PrimOk.none (k := 0), fun a r hr => ⟨@row_ok hook0 _ laidL 87 key0 r (tab0_ok a r hr), fun _ _ _ hrel hs ho => @memo_of hook0 _ (rows_ok hook0 rfl) mixed g64 laidL tot 87 r key0 _ (sum0 (cell_old hm (Nat.lt_of_lt_of_le gm_lt hL.1) ho) (hL.of_old hs ho)) (hL.of_old hs ho) _ _ hrel (tab0_ok a r hr)⟩⟩
theorem sat_m1a (hm : W.cell? ⟨0, 0, none⟩ = some (.int .i64 m)) (hL : LaidOk Tryz.prog laidL tot W) : @Sat hookA Tryz.prog W 125 5 := ⟨PrimOk.none (k := 1), fun a r hr => ⟨@row_ok hook0 _ laidL 125 key0 r (tab1_ok a r hr), fun _ _ _ hrel hs ho => @memo_of hook0 _ (rows_ok hook0 rfl) mixed g64 laidL tot 125 r key0 _ (sum0 (cell_old hm (Nat.lt_of_lt_of_le gm_lt hL.1) ho) (hL.of_old hs ho)) (hL.of_old hs ho) _ _ hrel (tab1_ok a r hr)⟩⟩
theorem sat_m1b (hm : W.cell? ⟨0, 0, none⟩ = some (.int .i64 m)) (hL : LaidOk Tryz.prog laidL tot W) : @Sat hookM Tryz.prog W 125 5 := ⟨PrimOk.none (k := 1), fun a r hr => ⟨@row_ok hook0 _ laidL 125 key0 r (tab1_ok a r hr), fun _ _ _ hrel hs ho => @memo_of hook0 _ (rows_ok hook0 rfl) mixed g64 laidL tot 125 r key0 _ (sum0 (cell_old hm (Nat.lt_of_lt_of_le gm_lt hL.1) ho) (hL.of_old hs ho)) (hL.of_old hs ho) _ _ hrel (tab1_ok a r hr)⟩⟩
theorem sumA (hm : W.cell? ⟨0, 0, none⟩ = some (.int .i64 m)) (hL : LaidOk Tryz.prog laidL tot W) : @SumOk Tryz.prog hookA W :=
  have hlt := Nat.lt_of_lt_of_le gm_lt hL.1
  @sumOk_of hookA _ _ (@sums_of hookA _ W sumLA rfl (List.forall_mem_cons.2 ⟨body87, (List.forall_mem_cons.2 ⟨body125, (List.forall_mem_cons.2 ⟨body53, (List.forall_mem_cons.2 ⟨body102, (List.forall_mem_cons.2 ⟨body26, (List.forall_mem_cons.2 ⟨body166, (by intro q h; cases h)⟩)⟩)⟩)⟩)⟩)⟩) (List.forall_mem_cons.2 ⟨sat_m0a hm hL, (List.forall_mem_cons.2 ⟨sat_m1a hm hL, (List.forall_mem_cons.2 ⟨(⟨@sortedStr_ok Tryz.prog W 53 9 isItS (sortedAtS W), fun _ r hr => by cases hr⟩ : @Sat hookA Tryz.prog W 53 7), (List.forall_mem_cons.2 ⟨(⟨@sortedInt_ok Tryz.prog W 102 3 isItI (sortedAtI W), fun _ r hr => by cases hr⟩ : @Sat hookA Tryz.prog W 102 8), (List.forall_mem_cons.2 ⟨(⟨@repeatP_ok Tryz.prog W 26 (repeat_at W), fun _ r hr => by cases hr⟩ : @Sat hookA Tryz.prog W 26 9), (List.forall_mem_cons.2 ⟨@sat_ixl W m hookA hm hlt, (by intro q h; cases h)⟩)⟩)⟩)⟩)⟩)⟩))
/-- 'awake' answers true, in whatever world -/
theorem awake_ok (hm : W.cell? ⟨0, 0, none⟩ = some (.int .i64 m)) (hL : LaidOk Tryz.prog laidL tot W) : Calls Tryz.prog 4 #[] W fun e w' => e = .returned (.bool true) ∧ Grew W w' :=
  @truth_of hookA _ (rows_ok hookA rfl) mixed g64 laidL tot 4 [] [] W (sumA hm hL) hL .nil _ awake_run
theorem sat_aw [Hook] (hm : W.cell? ⟨0, 0, none⟩ = some (.int .i64 m)) (hL : LaidOk Tryz.prog laidL tot W) : Sat Tryz.prog W 4 3 := fun _ hs ho => awake_ok (cell_old hm (Nat.lt_of_lt_of_le gm_lt hL.1) ho) (hL.of_old hs ho)
theorem sumM (hm : W.cell? ⟨0, 0, none⟩ = some (.int .i64 m)) (hL : LaidOk Tryz.prog laidL tot W) : @SumOk Tryz.prog hookM W :=
  have hlt := Nat.lt_of_lt_of_le gm_lt hL.1
  @sumOk_of hookM _ _ (@sums_of hookM _ W sumLM rfl (List.forall_mem_cons.2 ⟨body4, (List.forall_mem_cons.2 ⟨body87, (List.forall_mem_cons.2 ⟨body125, (List.forall_mem_cons.2 ⟨body53, (List.forall_mem_cons.2 ⟨body102, (List.forall_mem_cons.2 ⟨body26, (List.forall_mem_cons.2 ⟨body166, (by intro q h; cases h)⟩)⟩)⟩)⟩)⟩)⟩)⟩) (List.forall_mem_cons.2 ⟨@sat_aw W m hookM hm hL, (List.forall_mem_cons.2 ⟨sat_m0b hm hL, (List.forall_mem_cons.2 ⟨sat_m1b hm hL, (List.forall_mem_cons.2 ⟨(⟨@sortedStr_ok Tryz.prog W 53 9 isItS (sortedAtS W), fun _ r hr => by cases hr⟩ : @Sat hookM Tryz.prog W 53 7), (List.forall_mem_cons.2 ⟨(⟨@sortedInt_ok Tryz.prog W 102 3 isItI (sortedAtI W), fun _ r hr => by cases hr⟩ : @Sat hookM Tryz.prog W 102 8), (List.forall_mem_cons.2 ⟨(⟨@repeatP_ok Tryz.prog W 26 (repeat_at W), fun _ r hr => by cases hr⟩ : @Sat hookM Tryz.prog W 26 9), (List.forall_mem_cons.2 ⟨@sat_ixl W m hookM hm hlt, (by intro q h; cases h)⟩)⟩)⟩)⟩)⟩)⟩)⟩))
/-- the law answers true, in whatever world -/
theorem law_ok (hm : W.cell? ⟨0, 0, none⟩ = some (.int .i64 m)) (hL : LaidOk Tryz.prog laidL tot W) (x1 : Int) (x2 : Int) : Calls Tryz.prog 3 ⟨[.int .i64 x1, .int .i64 x2]⟩ W fun e w' => e = .returned (.bool true) ∧ Grew W w' := by
  have key : ∀ av : List AV, RelL (startRho tot Tryz.prog.globals.size) av [.int .i64 x1, .int .i64 x2] → @runF Tryz.prog hookM isTrue 500000 (startSt Tryz.prog laidL 3 av) = true → Calls Tryz.prog 3 ⟨[.int .i64 x1, .int .i64 x2]⟩ W fun e w' => e = .returned (.bool true) ∧ Grew W w' :=
    fun av hr hrun => @truth_of hookM _ (rows_ok hookM rfl) mixed g64 laidL tot 3 av [.int .i64 x1, .int .i64 x2] W (sumM hm hL) hL hr _ hrun
  obtain ⟨j1, l1, h1⟩ := red_rem 5 (by decide) x1
  obtain rfl | rfl | rfl | rfl | rfl : j1 = 0 ∨ j1 = 1 ∨ j1 = 2 ∨ j1 = 3 ∨ j1 = 4 := by omega
  · skip
    obtain ⟨j2, l2, h2⟩ := red_and 3 (by decide) x2
    obtain rfl | rfl | rfl | rfl : j2 = 0 ∨ j2 = 1 ∨ j2 = 2 ∨ j2 = 3 := by omega
    · skip
      exact key [.red .i64 false 5 0, .red .i64 true 3 0] (.cons _ _ _ _ (.red _ _ _ _ _ h1) (.cons _ _ _ _ (.red _ _ _ _ _ h2) .nil)) main_run_0_0
    · skip
      exact key [.red .i64 false 5 0, .red .i64 true 3 1] (.cons _ _ _ _ (.red _ _ _ _ _ h1) (.cons _ _ _ _ (.red _ _ _ _ _ h2) .nil)) main_run_0_1
    · skip
      exact key [.red .i64 false 5 0, .red .i64 true 3 2] (.cons _ _ _ _ (.red _ _ _ _ _ h1) (.cons _ _ _ _ (.red _ _ _ _ _ h2) .nil)) main_run_0_2
    · skip
      exact key [.red .i64 false 5 0, .red .i64 true 3 3] (.cons _ _ _ _ (.red _ _ _ _ _ h1) (.cons _ _ _ _ (.red _ _ _ _ _ h2) .nil)) main_run_0_3
  · skip
    obtain ⟨j2, l2, h2⟩ := red_and 3 (by decide) x2
    obtain rfl | rfl | rfl | rfl : j2 = 0 ∨ j2 = 1 ∨ j2 = 2 ∨ j2 = 3 := by omega
    · skip
      exact key [.red .i64 false 5 1, .red .i64 true 3 0] (.cons _ _ _ _ (.red _ _ _ _ _ h1) (.cons _ _ _ _ (.red _ _ _ _ _ h2) .nil)) main_run_1_0
    · skip
      exact key [.red .i64 false 5 1, .red .i64 true 3 1] (.cons _ _ _ _ (.red _ _ _ _ _ h1) (.cons _ _ _ _ (.red _ _ _ _ _ h2) .nil)) main_run_1_1
    · skip
      exact key [.red .i64 false 5 1, .red .i64 true 3 2] (.cons _ _ _ _ (.red _ _ _ _ _ h1) (.cons _ _ _ _ (.red _ _ _ _ _ h2) .nil)) main_run_1_2
    · skip
      exact key [.red .i64 false 5 1, .red .i64 true 3 3] (.cons _ _ _ _ (.red _ _ _ _ _ h1) (.cons _ _ _ _ (.red _ _ _ _ _ h2) .nil)) main_run_1_3
  · skip
    obtain ⟨j2, l2, h2⟩ := red_and 3 (by decide) x2
    obtain rfl | rfl | rfl | rfl : j2 = 0 ∨ j2 = 1 ∨ j2 = 2 ∨ j2 = 3 := by omega
    · skip
      exact key [.red .i64 false 5 2, .red .i64 true 3 0] (.cons _ _ _ _ (.red _ _ _ _ _ h1) (.cons _ _ _ _ (.red _ _ _ _ _ h2) .nil)) main_run_2_0
    · skip
      exact key [.red .i64 false 5 2, .red .i64 true 3 1] (.cons _ _ _ _ (.red _ _ _ _ _ h1) (.cons _ _ _ _ (.red _ _ _ _ _ h2) .nil)) main_run_2_1
    · skip
      exact key [.red .i64 false 5 2, .red .i64 true 3 2] (.cons _ _ _ _ (.red _ _ _ _ _ h1) (.cons _ _ _ _ (.red _ _ _ _ _ h2) .nil)) main_run_2_2
    · skip
      exact key [.red .i64 false 5 2, .red .i64 true 3 3] (.cons _ _ _ _ (.red _ _ _ _ _ h1) (.cons _ _ _ _ (.red _ _ _ _ _ h2) .nil)) main_run_2_3
  · skip
    obtain ⟨j2, l2, h2⟩ := red_and 3 (by decide) x2
    obtain rfl | rfl | rfl | rfl : j2 = 0 ∨ j2 = 1 ∨ j2 = 2 ∨ j2 = 3 := by omega
    · skip
      exact key [.red .i64 false 5 3, .red .i64 true 3 0] (.cons _ _ _ _ (.red _ _ _ _ _ h1) (.cons _ _ _ _ (.red _ _ _ _ _ h2) .nil)) main_run_3_0
    · skip
      exact key [.red .i64 false 5 3, .red .i64 true 3 1] (.cons _ _ _ _ (.red _ _ _ _ _ h1) (.cons _ _ _ _ (.red _ _ _ _ _ h2) .nil)) main_run_3_1
    · skip
      exact key [.red .i64 false 5 3, .red .i64 true 3 2] (.cons _ _ _ _ (.red _ _ _ _ _ h1) (.cons _ _ _ _ (.red _ _ _ _ _ h2) .nil)) main_run_3_2
    · skip
      exact key [.red .i64 false 5 3, .red .i64 true 3 3] (.cons _ _ _ _ (.red _ _ _ _ _ h1) (.cons _ _ _ _ (.red _ _ _ _ _ h2) .nil)) main_run_3_3
  · skip
    obtain ⟨j2, l2, h2⟩ := red_and 3 (by decide) x2
    obtain rfl | rfl | rfl | rfl : j2 = 0 ∨ j2 = 1 ∨ j2 = 2 ∨ j2 = 3 := by omega
    · skip
      exact key [.red .i64 false 5 4, .red .i64 true 3 0] (.cons _ _ _ _ (.red _ _ _ _ _ h1) (.cons _ _ _ _ (.red _ _ _ _ _ h2) .nil)) main_run_4_0
    · skip
      exact key [.red .i64 false 5 4, .red .i64 true 3 1] (.cons _ _ _ _ (.red _ _ _ _ _ h1) (.cons _ _ _ _ (.red _ _ _ _ _ h2) .nil)) main_run_4_1
    · skip
      exact key [.red .i64 false 5 4, .red .i64 true 3 2] (.cons _ _ _ _ (.red _ _ _ _ _ h1) (.cons _ _ _ _ (.red _ _ _ _ _ h2) .nil)) main_run_4_2
    · skip
      exact key [.red .i64 false 5 4, .red .i64 true 3 3] (.cons _ _ _ _ (.red _ _ _ _ _ h1) (.cons _ _ _ _ (.red _ _ _ _ _ h2) .nil)) main_run_4_3
end
theorem own : ownKnob Tryz.prog.godebug = none := by kernel_rfl
theorem laid_of {W : World} (hs : Tryz.prog.globals.size ≤ W.heap.size) : LaidOk Tryz.prog laidL tot W := ⟨hs, fun g o _ hl N ρ => by cases hl⟩
theorem heap_size {W : World} (h : W.ShapedOpen Tryz.prog) : Tryz.prog.globals.size ≤ W.heap.size := by
  obtain ⟨o, _, ho, _⟩ := h.2 _ (Nat.le_refl _) (of_decide_eq_true (by kernel_rfl))
  exact Nat.le_of_lt (Array.getElem?_eq_some_iff.1 ho).1
set_option maxRecDepth 100000 in
theorem lifted0 (os : Os) (started : os.Started) (H : Type) (enc : TypeId × Value → H) :
    ReturnsInHanded {} Tryz.checked os 3 .any (fun w args => (Rows.blobMeetsSpec.pre enc Tryz.prog Tryz.f3 Rows.blobMeetsRow.domain false w args ∧ True) ∧ sizedMet enc Tryz.prog Tryz.f3 (OpenSpec.ofChange Rows.blobMeetsSpec) false w args)
      (Rows.blobMeetsSpec.post enc Tryz.prog Tryz.f3 false true false false) := by
  refine handed_of (C := Tryz.checked) (X := fun _ _ => True) (fun _ _ _ _ h => h) own started (by kernel_rfl) Tryz.func3
    (ChangeSpec.witness_shaped (enc := enc) (C := Tryz.checked) (os := os) (X := fun _ _ => True) false (World.laidAll Tryz.prog os Rows.blobMeetsRow.laid) #[.int .i64 0, .int .i64 0] 8 (World.laidAll_os _ _ _)
      (World.shaped_of_ZipB (by kernel_rfl) (by kernel_rfl)) (by kernel_rfl) (by kernel_rfl) (by kernel_rfl) trivial) ?_
  intro W base args ds gs before hval0 hW _ hsh
  have hW' := hW
  obtain ⟨p, q, hA0, hV, rfl, _, _⟩ := hW
  have hA : DataW.TrodAll enc Tryz.prog W 0 (fun _ => true) true Tryz.f3.params.toList args.toList ds p := hA0
  rw [Tryz.params3] at hA
  obtain ⟨u1, u2, d1, d2, p1, p2, rfl, rfl, rfl, hd1, hd2⟩ := trodAll_two hA
  obtain ⟨x1, rfl, rfl, rfl, wf1⟩ := open_int Tryz.underlying3 (hval0 0 _ _ (by rw [← Array.getElem?_toList, Tryz.params3]; rfl) rfl) hd1
  obtain ⟨x2, rfl, rfl, rfl, wf2⟩ := open_int Tryz.underlying3 (hval0 1 _ _ (by rw [← Array.getElem?_toList, Tryz.params3]; rfl) rfl) hd2
  obtain ⟨rfl, rfl⟩ := trodVars_none hV
  obtain ⟨m, hm⟩ := Tryz.laysM219.s1_3 W hsh
  refine (law_ok hm (laid_of (heap_size hsh)) x1 x2).mono fun e W' ⟨he, hg⟩ => ?_
  subst he
  exact ⟨_, rfl, post_of_grew hW' (fun _ _ _ => trodAll_mk1 (shut_bool Tryz.underlying4 _)) (fun _ => by rw [Tryz.params3]; exact (trodAll_cons_mk (shut_int Tryz.underlying3 wf1) (trodAll_cons_mk (shut_int Tryz.underlying3 wf2) trodAll_mk0))) (fun _ => rfl) hg⟩
theorem lifted (os : Os) (started : os.Started) (H : Type) (enc : TypeId × Value → H) :
    ReturnsInHanded {} Tryz.checked os 3 .any (fun w args => Rows.blobMeetsSpec.pre enc Tryz.prog Tryz.f3 Rows.blobMeetsRow.domain false w args ∧ sizedMet enc Tryz.prog Tryz.f3 (OpenSpec.ofChange Rows.blobMeetsSpec) false w args)
      (Rows.blobMeetsSpec.post enc Tryz.prog Tryz.f3 false true false false) := by
  have h := lifted0 os started H enc
  have e : (fun (w : World) (args : Array Value) => (Rows.blobMeetsSpec.pre enc Tryz.prog Tryz.f3 Rows.blobMeetsRow.domain false w args ∧ True) ∧ sizedMet enc Tryz.prog Tryz.f3 (OpenSpec.ofChange Rows.blobMeetsSpec) false w args) = (fun w args => Rows.blobMeetsSpec.pre enc Tryz.prog Tryz.f3 Rows.blobMeetsRow.domain false w args ∧ sizedMet enc Tryz.prog Tryz.f3 (OpenSpec.ofChange Rows.blobMeetsSpec) false w args) := by
    funext w args; rw [and_true]
  rw [e] at h
  exact h
end Go.Proofs.YtdeahggaclcldaaGreat

/- JournalFull answers true, and nothing that was there is turned: the contract, out of the evaluator's runs, and its lift to the row's form. Conditions: none beyond the given row. -/
import Derived.Test.YtjcdcdhddpmgiaaJfRA
import Derived.Test.YtjcdcdhddpmgiaaJfMT0
import Derived.Test.YtjcdcdhddpmgiaaJfMT1
import Derived.Test.YtjcdcdhddpmgiaaJfMT2
import Derived.Test.YtjcdcdhddpmgiaaJfMT3
import Derived.Test.YtjcdcdhddpmgiaaJfMT4
import Derived.Test.YtjcdcdhddpmgiaaJfMT5
import Derived.Test.YtjcdcdhddpmgiaaJfMT6
import Derived.Test.YtjcdcdhddpmgiaaJfMT7
import Derived.Test.YtjcdcdhddpmgiaaJfRM0
import Derived.Test.YtjcdcdhddpmgiaaJfRM1
import Derived.Test.YtjcdcdhddpmgiaaJfRM2
import Derived.Test.YtjcdcdhddpmgiaaJfRM3
import Derived.Test.YtjcdcdhddpmgiaaJfRM4
import Derived.Test.YtjcdcdhddpmgiaaJfRM5
import Derived.Test.YtjcdcdhddpmgiaaJfRM6
import Derived.Test.YtjcdcdhddpmgiaaJfRM7
import Derived.Test.YtjcdcdhddpmgiaaJfRM8
import Derived.Test.YtjcdcdhddpmgiaaJfRM9
import Derived.Test.YtjcdcdhddpmgiaaJfRM10
import Derived.Test.YtjcdcdhddpmgiaaJfRM11
import Derived.Test.YtjcdcdhddpmgiaaJfRM12
import Derived.Test.YtjcdcdhddpmgiaaJfRM13
import Derived.Test.YtjcdcdhddpmgiaaSt
import Derived.Test.YtjcdcdhddpmgiaaRows
import Derived.SevenTiedAt
import Derived.Stop.Joined
namespace Go.Proofs.Ytjcdcdhddpmgiaa
open Go.ChangeShapes Go.WideShapes Go.ChangeAt Go.RowKit Go.VM
theorem mixed : Try.prog.follows .mixedOrders = true := by kernel_rfl
theorem g64 : Try.prog.globals.size ≤ 64 := by decide +kernel
theorem row51 : Extern.findNext Try.f51 = none ∧ Extern.find Try.f51 = some (Extern.BytealgMakeNoZero.makeNoZero Try.f51.params Try.f51.resultTypes) := ⟨by kernel_rfl, by kernel_rfl⟩
theorem vm51 : vmRow 5 Try.f51 = some (Extern.BytealgMakeNoZero.makeNoZero Try.f51.params Try.f51.resultTypes) := rfl
theorem row44 : Extern.findNext Try.f44 = none ∧ Extern.find Try.f44 = some Extern.AbiNoEscape.same := ⟨by kernel_rfl, by kernel_rfl⟩
theorem vm44 : vmRow 3 Try.f44 = some Extern.AbiNoEscape.same := rfl
theorem rows_ok (H : Hook) (hH : H.exts = lookN extL) : @RowsOk H Try.prog := by
  refine @rowsOk_of H _ extL (fun f => by show H.exts f = _; rw [hH]) fun f k hm fd hp impl hv => ?_
  simp only [extL, List.mem_cons, List.not_mem_nil, or_false, Prod.mk.injEq] at hm
  rcases hm with ⟨rfl, rfl⟩ | ⟨rfl, rfl⟩
  · rw [Try.func51] at hp; cases hp; rw [vm51] at hv; cases hv; exact row51
  · rw [Try.func44] at hp; cases hp; rw [vm44] at hv; cases hv; exact row44
theorem body4 : ∃ c, bodyOf Try.prog 4 = some c := body_of Try.func4 (by kernel_rfl) (by kernel_rfl)
theorem body8 : ∃ c, bodyOf Try.prog 8 = some c := body_of Try.func8 (by kernel_rfl) (by kernel_rfl)
theorem body15 : ∃ c, bodyOf Try.prog 15 = some c := body_of Try.func15 (by kernel_rfl) (by kernel_rfl)
theorem body35 : ∃ c, bodyOf Try.prog 35 = some c := body_of Try.func35 (by kernel_rfl) (by kernel_rfl)
theorem body33 : ∃ c, bodyOf Try.prog 33 = some c := body_of Try.func33 (by kernel_rfl) (by kernel_rfl)
theorem blocks_ok : ∀ r ∈ blockRows, @rowRun hook0 Try.prog laidL 8 key0 r = true := (List.forall_mem_cons.2 ⟨br0_ok, (List.forall_mem_cons.2 ⟨br1_ok, (List.forall_mem_cons.2 ⟨br2_ok, (List.forall_mem_cons.2 ⟨br3_ok, (List.forall_mem_cons.2 ⟨br4_ok, (List.forall_mem_cons.2 ⟨br5_ok, (List.forall_mem_cons.2 ⟨br6_ok, (List.forall_mem_cons.2 ⟨br7_ok, (List.forall_mem_cons.2 ⟨br8_ok, (List.forall_mem_cons.2 ⟨br9_ok, (List.forall_mem_cons.2 ⟨br10_ok, (List.forall_mem_cons.2 ⟨br11_ok, (List.forall_mem_cons.2 ⟨br12_ok, (List.forall_mem_cons.2 ⟨br13_ok, (List.forall_mem_cons.2 ⟨br14_ok, (List.forall_mem_cons.2 ⟨br15_ok, (List.forall_mem_cons.2 ⟨br16_ok, (List.forall_mem_cons.2 ⟨br17_ok, (List.forall_mem_cons.2 ⟨br18_ok, (List.forall_mem_cons.2 ⟨br19_ok, (List.forall_mem_cons.2 ⟨br20_ok, (List.forall_mem_cons.2 ⟨br21_ok, (List.forall_mem_cons.2 ⟨br22_ok, (List.forall_mem_cons.2 ⟨br23_ok, (List.forall_mem_cons.2 ⟨br24_ok, (List.forall_mem_cons.2 ⟨br25_ok, (List.forall_mem_cons.2 ⟨br26_ok, (List.forall_mem_cons.2 ⟨br27_ok, (List.forall_mem_cons.2 ⟨br28_ok, (List.forall_mem_cons.2 ⟨br29_ok, (List.forall_mem_cons.2 ⟨br30_ok, (List.forall_mem_cons.2 ⟨br31_ok, (List.forall_mem_cons.2 ⟨br32_ok, (List.forall_mem_cons.2 ⟨br33_ok, (List.forall_mem_cons.2 ⟨br34_ok, (List.forall_mem_cons.2 ⟨br35_ok, (List.forall_mem_cons.2 ⟨br36_ok, (List.forall_mem_cons.2 ⟨br37_ok, (List.forall_mem_cons.2 ⟨br38_ok, (List.forall_mem_cons.2 ⟨br39_ok, (List.forall_mem_cons.2 ⟨br40_ok, (List.forall_mem_cons.2 ⟨br41_ok, (List.forall_mem_cons.2 ⟨br42_ok, (List.forall_mem_cons.2 ⟨br43_ok, (List.forall_mem_cons.2 ⟨br44_ok, (List.forall_mem_cons.2 ⟨br45_ok, (List.forall_mem_cons.2 ⟨br46_ok, (List.forall_mem_cons.2 ⟨br47_ok, (List.forall_mem_cons.2 ⟨br48_ok, (List.forall_mem_cons.2 ⟨br49_ok, (List.forall_mem_cons.2 ⟨br50_ok, (List.forall_mem_cons.2 ⟨br51_ok, (List.forall_mem_cons.2 ⟨br52_ok, (List.forall_mem_cons.2 ⟨br53_ok, (List.forall_mem_cons.2 ⟨br54_ok, (List.forall_mem_cons.2 ⟨br55_ok, (List.forall_mem_cons.2 ⟨br56_ok, (List.forall_mem_cons.2 ⟨br57_ok, (List.forall_mem_cons.2 ⟨br58_ok, (List.forall_mem_cons.2 ⟨br59_ok, (List.forall_mem_cons.2 ⟨br60_ok, (List.forall_mem_cons.2 ⟨br61_ok, (List.forall_mem_cons.2 ⟨br62_ok, (List.forall_mem_cons.2 ⟨br63_ok, (by intro p h; cases h)⟩)⟩)⟩)⟩)⟩)⟩)⟩)⟩)⟩)⟩)⟩)⟩)⟩)⟩)⟩)⟩)⟩)⟩)⟩)⟩)⟩)⟩)⟩)⟩)⟩)⟩)⟩)⟩)⟩)⟩)⟩)⟩)⟩)⟩)⟩)⟩)⟩)⟩)⟩)⟩)⟩)⟩)⟩)⟩)⟩)⟩)⟩)⟩)⟩)⟩)⟩)⟩)⟩)⟩)⟩)⟩)⟩)⟩)⟩)⟩)⟩)⟩)⟩)⟩)
theorem zeros_ok : ∀ r ∈ [zeroRow], @rowRun hook0 Try.prog laidL 15 key0 r = true := (List.forall_mem_cons.2 ⟨zero_ok, (by intro p h; cases h)⟩)
section
variable {b : Base} {W : World}
theorem sum0 : @SumOk Try.prog hook0 b :=
  @sumOk_of hook0 _ _ (@sums_of hook0 _ b [] rfl (by intro q h; cases h) (by intro q h; cases h))
theorem bl_rows (hk : b.Keeps Try.prog laidL tot) : ∀ r ∈ blockRows, ∀ (ρ : Rho) (A : List Value) (w : World), RelL ρ r.args A → b.w.heap.size ≤ w.heap.size → (∀ k, b.F k → w.heap[k]? = b.w.heap[k]?) → Calls Try.prog 8 ⟨A⟩ w fun e w' => ∃ ρ1 h1 V, e = .returned V ∧ Rel ρ1 r.val V ∧ Sim (Base.std w) ρ1 h1 w' ∧ ∀ p ∈ r.objs, h1.get p.1 = some p.2 :=
  fun r hr _ _ _ hrel hs ho => @memo_of hook0 _ (rows_ok hook0 rfl) mixed g64 laidL tot 8 r key0 _ (sum0 (b := Base.at _ _)) (hk.world hs ho) _ _ hrel (blocks_ok r hr)
theorem sat_bl [H : Hook] (ht : H.tab 0 = fun _ => blockRows) (hp : H.prim 0 = liftRows blockRows) (hk : b.Keeps Try.prog laidL tot) : Sat Try.prog b 8 4 := by
  refine ⟨?_, fun a r hr => ?_⟩
  · rw [hp]
    exact liftRows_ok fun r hr ρ A w hrel hs ho => (bl_rows hk r hr ρ A w hrel hs ho).mono fun e w' ⟨ρ1, h1, V, h⟩ => ⟨ρ1, h1, V, h.1, h.2.1, h.2.2.1⟩
  · rw [ht] at hr
    exact ⟨@row_ok hook0 _ laidL 8 key0 r (blocks_ok r hr), fun ρ A w hrel hs ho => bl_rows hk r hr ρ A w hrel hs ho⟩
theorem sat_b0 [H : Hook] (ht : H.tab 1 = fun _ => [zeroRow]) (hp : H.prim 1 = noPrim 1) (hk : b.Keeps Try.prog laidL tot) : Sat Try.prog b 15 5 := by
  refine ⟨?_, fun a r hr => ?_⟩
  · rw [hp]; exact PrimOk.none
  · rw [ht] at hr
    exact ⟨@row_ok hook0 _ laidL 15 key0 r (zeros_ok r hr), fun _ _ _ hrel hs ho => @memo_of hook0 _ (rows_ok hook0 rfl) mixed g64 laidL tot 15 r key0 _ (sum0 (b := Base.at _ _)) (hk.world hs ho) _ _ hrel (zeros_ok r hr)⟩
theorem sumA (hk : b.Keeps Try.prog laidL tot) : @SumOk Try.prog hookA b :=
  @sumOk_of hookA _ _ (@sums_of hookA _ b sumLA rfl (List.forall_mem_cons.2 ⟨body8, (List.forall_mem_cons.2 ⟨body15, (List.forall_mem_cons.2 ⟨body35, (List.forall_mem_cons.2 ⟨body33, (by intro q h; cases h)⟩)⟩)⟩)⟩) (List.forall_mem_cons.2 ⟨@sat_bl b hookA rfl rfl hk, (List.forall_mem_cons.2 ⟨@sat_b0 b hookA rfl rfl hk, (List.forall_mem_cons.2 ⟨(⟨@sortedInt_ok Try.prog b 35 3 isItJ (sortedAtI b), fun _ r hr => by cases hr⟩ : @Sat hookA Try.prog b 35 6), (List.forall_mem_cons.2 ⟨(⟨@repeatP_ok Try.prog b 33 (repeat_at b), fun _ r hr => by cases hr⟩ : @Sat hookA Try.prog b 33 7), (by intro q h; cases h)⟩)⟩)⟩)⟩))
/-- 'awake' answers true, in whatever world -/
theorem awake_ok (hL : LaidOk Try.prog laidL tot W) : Calls Try.prog 4 #[] W fun e w' => e = .returned (.bool true) ∧ Grew W w' :=
  @truth_of hookA _ (rows_ok hookA rfl) mixed g64 laidL tot 4 [] [] W (sumA (b := Base.at W _) (.of_at hL)) hL .nil _ awake_run
theorem sat_aw [Hook] (hk : b.Keeps Try.prog laidL tot) : Sat Try.prog b 4 3 := fun _ hs ho => awake_ok (hk.world hs ho)
theorem sumM (hk : b.Keeps Try.prog laidL tot) : @SumOk Try.prog hookM b :=
  @sumOk_of hookM _ _ (@sums_of hookM _ b sumLM rfl (List.forall_mem_cons.2 ⟨body4, (List.forall_mem_cons.2 ⟨body8, (List.forall_mem_cons.2 ⟨body15, (List.forall_mem_cons.2 ⟨body35, (List.forall_mem_cons.2 ⟨body33, (by intro q h; cases h)⟩)⟩)⟩)⟩)⟩) (List.forall_mem_cons.2 ⟨@sat_aw b hookM hk, (List.forall_mem_cons.2 ⟨@sat_bl b hookM rfl rfl hk, (List.forall_mem_cons.2 ⟨@sat_b0 b hookM rfl rfl hk, (List.forall_mem_cons.2 ⟨(⟨@sortedInt_ok Try.prog b 35 3 isItJ (sortedAtI b), fun _ r hr => by cases hr⟩ : @Sat hookM Try.prog b 35 6), (List.forall_mem_cons.2 ⟨(⟨@repeatP_ok Try.prog b 33 (repeat_at b), fun _ r hr => by cases hr⟩ : @Sat hookM Try.prog b 33 7), (by intro q h; cases h)⟩)⟩)⟩)⟩)⟩))
theorem free_ok (lo hi : Nat) : freeSymO (syms lo hi) ⟨startT laidL Try.prog.globals.size, keyN 4096⟩ = true := by kernel_rfl
theorem dom_mem : ∀ j, j < 64 → j ∈ dom64 := by decide
/-- the law answers true, in whatever world -/
theorem law_ok (hL : LaidOk Try.prog laidL tot W) (x1 : Int) (x2 : Int) : Calls Try.prog 3 ⟨[.int .i64 x1, .int .i64 x2]⟩ W fun e w' => e = .returned (.bool true) ∧ Grew W w' := by
  obtain ⟨j1, l1, h1⟩ := red_and 127 (by decide) x1
  obtain ⟨j2, l2, h2⟩ := red_and 63 (by decide) x2
  have hi : symRhoO (startRho tot Try.prog.globals.size) (syms 0 128) [j1, j2] keyI = some ⟨0, j1, 0⟩ := by simp [symRhoO, syms, Rho.add, keyI, keyB]
  have hb : symRhoO (startRho tot Try.prog.globals.size) (syms 0 128) [j1, j2] keyB = some ⟨0, j2, 0⟩ := by simp [symRhoO, syms, Rho.add]
  have key : ∀ lo hi : Nat, lo ≤ j1 ∧ j1 < hi → @runF Try.prog hookM isTrue 500000 (startStG Try.prog laidL 3 argsL (syms lo hi) (keyN 4096)) = true → Calls Try.prog 3 ⟨[.int .i64 x1, .int .i64 x2]⟩ W fun e w' => e = .returned (.bool true) ∧ Grew W w' :=
    fun lo hi' hj hrun => @truth_symG hookM _ (rows_ok hookM rfl) mixed g64 laidL tot 3 argsL [.int .i64 x1, .int .i64 x2] W (sumM (b := Base.at W _) (.of_at hL)) hL (Nat.lt_of_lt_of_le (by decide +kernel : 0 < Try.prog.globals.size) hL.1) (syms lo hi') [j1, j2] (keyN 4096) (free_ok lo hi') ⟨hj, dom_mem _ (by omega), trivial⟩
      (.cons _ _ _ _ (.reds _ _ _ _ _ _ hi h1) (.cons _ _ _ _ (.reds _ _ _ _ _ _ hb h2) .nil)) _ hrun
  by_cases c0 : j1 < 7
  · exact key 0 7 ⟨by omega, c0⟩ run_0
  by_cases c1 : j1 < 14
  · exact key 7 14 ⟨by omega, c1⟩ run_7
  by_cases c2 : j1 < 20
  · exact key 14 20 ⟨by omega, c2⟩ run_14
  by_cases c3 : j1 < 26
  · exact key 20 26 ⟨by omega, c3⟩ run_20
  by_cases c4 : j1 < 31
  · exact key 26 31 ⟨by omega, c4⟩ run_26
  by_cases c5 : j1 < 36
  · exact key 31 36 ⟨by omega, c5⟩ run_31
  by_cases c6 : j1 < 40
  · exact key 36 40 ⟨by omega, c6⟩ run_36
  by_cases c7 : j1 < 42
  · exact key 40 42 ⟨by omega, c7⟩ run_40
  by_cases c8 : j1 < 44
  · exact key 42 44 ⟨by omega, c8⟩ run_42
  by_cases c9 : j1 < 46
  · exact key 44 46 ⟨by omega, c9⟩ run_44
  by_cases c10 : j1 < 48
  · exact key 46 48 ⟨by omega, c10⟩ run_46
  by_cases c11 : j1 < 50
  · exact key 48 50 ⟨by omega, c11⟩ run_48
  by_cases c12 : j1 < 52
  · exact key 50 52 ⟨by omega, c12⟩ run_50
  by_cases c13 : j1 < 54
  · exact key 52 54 ⟨by omega, c13⟩ run_52
  by_cases c14 : j1 < 56
  · exact key 54 56 ⟨by omega, c14⟩ run_54
  by_cases c15 : j1 < 58
  · exact key 56 58 ⟨by omega, c15⟩ run_56
  by_cases c16 : j1 < 60
  · exact key 58 60 ⟨by omega, c16⟩ run_58
  by_cases c17 : j1 < 62
  · exact key 60 62 ⟨by omega, c17⟩ run_60
  by_cases c18 : j1 < 64
  · exact key 62 64 ⟨by omega, c18⟩ run_62
  by_cases c19 : j1 < 66
  · exact key 64 66 ⟨by omega, c19⟩ run_64
  by_cases c20 : j1 < 68
  · exact key 66 68 ⟨by omega, c20⟩ run_66
  by_cases c21 : j1 < 70
  · exact key 68 70 ⟨by omega, c21⟩ run_68
  by_cases c22 : j1 < 72
  · exact key 70 72 ⟨by omega, c22⟩ run_70
  by_cases c23 : j1 < 74
  · exact key 72 74 ⟨by omega, c23⟩ run_72
  by_cases c24 : j1 < 76
  · exact key 74 76 ⟨by omega, c24⟩ run_74
  by_cases c25 : j1 < 78
  · exact key 76 78 ⟨by omega, c25⟩ run_76
  by_cases c26 : j1 < 80
  · exact key 78 80 ⟨by omega, c26⟩ run_78
  exact key 80 128 ⟨by omega, by omega⟩ run_80
end
theorem own : ownKnob Try.prog.godebug = none := by kernel_rfl
theorem laid_of {W : World} (hs : Try.prog.globals.size ≤ W.heap.size) : LaidOk Try.prog laidL tot W := ⟨hs, fun g o _ hl N ρ => by cases hl⟩
theorem heap_size {W : World} (h : W.ShapedOpen Try.prog) : Try.prog.globals.size ≤ W.heap.size := by
  obtain ⟨o, _, ho, _⟩ := h.2 _ (Nat.le_refl _) (of_decide_eq_true (by kernel_rfl))
  exact Nat.le_of_lt (Array.getElem?_eq_some_iff.1 ho).1
set_option maxRecDepth 100000 in
theorem lifted0 (os : Os) (started : os.Started) (H : Type) (enc : TypeId × Value → H) :
    ReturnsInHanded {} Try.checked os 3 .any (fun w args => (Rows.journalFullSpec.pre enc Try.prog Try.f3 Rows.journalFullRow.domain false w args ∧ True) ∧ sizedMet enc Try.prog Try.f3 (OpenSpec.ofChange Rows.journalFullSpec) false w args)
      (Rows.journalFullSpec.post enc Try.prog Try.f3 false true false false) := by
  refine handed_of (C := Try.checked) (X := fun _ _ => True) (fun _ _ _ _ h => h) own started (by kernel_rfl) Try.func3
    (ChangeSpec.witness_shaped (enc := enc) (C := Try.checked) (os := os) (X := fun _ _ => True) false (World.laidAll Try.prog os Rows.journalFullRow.laid) #[.int .i64 0, .int .i64 0] 8 (World.laidAll_os _ _ _)
      (World.shaped_of_ZipB (by kernel_rfl) (by kernel_rfl)) (by kernel_rfl) (by kernel_rfl) (by kernel_rfl) trivial) ?_
  intro W base args ds gs before hval0 hW _ hsh
  have hW' := hW
  obtain ⟨p, q, hA0, hV, rfl, _, _⟩ := hW
  have hA : DataW.TrodAll enc Try.prog W 0 (fun _ => true) true Try.f3.params.toList args.toList ds p := hA0
  rw [Try.params3] at hA
  obtain ⟨u1, u2, d1, d2, p1, p2, rfl, rfl, rfl, hd1, hd2⟩ := trodAll_two hA
  obtain ⟨x1, rfl, rfl, rfl, wf1⟩ := open_int Try.underlying3 (hval0 0 _ _ (by rw [← Array.getElem?_toList, Try.params3]; rfl) rfl) hd1
  obtain ⟨x2, rfl, rfl, rfl, wf2⟩ := open_int Try.underlying3 (hval0 1 _ _ (by rw [← Array.getElem?_toList, Try.params3]; rfl) rfl) hd2
  obtain ⟨rfl, rfl⟩ := trodVars_none hV
  refine (law_ok (laid_of (heap_size hsh)) x1 x2).mono fun e W' ⟨he, hg⟩ => ?_
  subst he
  exact ⟨_, rfl, post_of_grew hW' (fun _ _ _ => trodAll_mk1 (shut_bool Try.underlying4 _)) (fun _ => by rw [Try.params3]; exact (trodAll_cons_mk (shut_int Try.underlying3 wf1) (trodAll_cons_mk (shut_int Try.underlying3 wf2) trodAll_mk0))) (fun _ => rfl) hg⟩
theorem lifted (os : Os) (started : os.Started) (H : Type) (enc : TypeId × Value → H) :
    ReturnsInHanded {} Try.checked os 3 .any (fun w args => Rows.journalFullSpec.pre enc Try.prog Try.f3 Rows.journalFullRow.domain false w args ∧ sizedMet enc Try.prog Try.f3 (OpenSpec.ofChange Rows.journalFullSpec) false w args)
      (Rows.journalFullSpec.post enc Try.prog Try.f3 false true false false) := by
  have h := lifted0 os started H enc
  have e : (fun (w : World) (args : Array Value) => (Rows.journalFullSpec.pre enc Try.prog Try.f3 Rows.journalFullRow.domain false w args ∧ True) ∧ sizedMet enc Try.prog Try.f3 (OpenSpec.ofChange Rows.journalFullSpec) false w args) = (fun w args => Rows.journalFullSpec.pre enc Try.prog Try.f3 Rows.journalFullRow.domain false w args ∧ sizedMet enc Try.prog Try.f3 (OpenSpec.ofChange Rows.journalFullSpec) false w args) := by
    funext w args; rw [and_true]
  rw [e] at h
  exact h
end Go.Proofs.Ytjcdcdhddpmgiaa

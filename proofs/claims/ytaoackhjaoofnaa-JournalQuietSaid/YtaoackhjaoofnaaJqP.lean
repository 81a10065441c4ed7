/- JournalQuiet answers true, and nothing that was there is turned: the contract, out of the evaluator's runs, and its lift to the row's form. Conditions: none beyond the given row. -/
import Derived.Test.YtaoackhjaoofnaaJqRA
import Derived.Test.YtaoackhjaoofnaaJqMT0
import Derived.Test.YtaoackhjaoofnaaJqMT1
import Derived.Test.YtaoackhjaoofnaaJqMT2
import Derived.Test.YtaoackhjaoofnaaJqMT3
import Derived.Test.YtaoackhjaoofnaaJqMT4
import Derived.Test.YtaoackhjaoofnaaJqRM0
import Derived.Test.YtaoackhjaoofnaaJqRM1
import Derived.Test.YtaoackhjaoofnaaJqRM2
import Derived.Test.YtaoackhjaoofnaaJqRM3
import Derived.Test.YtaoackhjaoofnaaJqRM4
import Derived.Test.YtaoackhjaoofnaaJqRM5
import Derived.Test.YtaoackhjaoofnaaJqRM6
import Derived.Test.YtaoackhjaoofnaaJqRM7
import Derived.Test.YtaoackhjaoofnaaJqRM8
import Derived.Test.YtaoackhjaoofnaaJqRM9
import Derived.Test.YtaoackhjaoofnaaJqRM10
import Derived.Test.YtaoackhjaoofnaaSt
import Derived.Test.YtaoackhjaoofnaaRows
import Derived.SevenTiedAt
import Derived.Stop.Joined
import Derived.ChangeSlices
import Derived.WideKeyArgs
import Derived.Carry
namespace Go.Proofs.Ytaoackhjaoofnaa
open Go.ChangeShapes Go.WideShapes Go.ChangeAt Go.RowKit Go.VM
theorem mixed : Try.prog.follows .mixedOrders = true := by kernel_rfl
theorem g64 : Try.prog.globals.size ≤ 64 := by decide +kernel
theorem row50 : Extern.findNext Try.f50 = none ∧ Extern.find Try.f50 = some (Extern.BytealgMakeNoZero.makeNoZero Try.f50.params Try.f50.resultTypes) := ⟨by kernel_rfl, by kernel_rfl⟩
theorem vm50 : vmRow 5 Try.f50 = some (Extern.BytealgMakeNoZero.makeNoZero Try.f50.params Try.f50.resultTypes) := rfl
theorem row42 : Extern.findNext Try.f42 = none ∧ Extern.find Try.f42 = some Extern.AbiNoEscape.same := ⟨by kernel_rfl, by kernel_rfl⟩
theorem vm42 : vmRow 3 Try.f42 = some Extern.AbiNoEscape.same := rfl
theorem rows_ok (H : Hook) (hH : H.exts = lookN extL) : @RowsOk H Try.prog := by
  refine @rowsOk_of H _ extL (fun f => by show H.exts f = _; rw [hH]) fun f k hm fd hp impl hv => ?_
  simp only [extL, List.mem_cons, List.not_mem_nil, or_false, Prod.mk.injEq] at hm
  rcases hm with ⟨rfl, rfl⟩ | ⟨rfl, rfl⟩
  · rw [Try.func50] at hp; cases hp; rw [vm50] at hv; cases hv; exact row50
  · rw [Try.func42] at hp; cases hp; rw [vm42] at hv; cases hv; exact row42
theorem body4 : ∃ c, bodyOf Try.prog 4 = some c := body_of Try.func4 (by kernel_rfl) (by kernel_rfl)
theorem body11 : ∃ c, bodyOf Try.prog 11 = some c := body_of Try.func11 (by kernel_rfl) (by kernel_rfl)
theorem body32 : ∃ c, bodyOf Try.prog 32 = some c := body_of Try.func32 (by kernel_rfl) (by kernel_rfl)
theorem body30 : ∃ c, bodyOf Try.prog 30 = some c := body_of Try.func30 (by kernel_rfl) (by kernel_rfl)
theorem blocks_ok : ∀ r ∈ blockRows, @rowRun hook0 Try.prog laidL 11 key0 r = true := (List.forall_mem_cons.2 ⟨br0_ok, (List.forall_mem_cons.2 ⟨br1_ok, (List.forall_mem_cons.2 ⟨br2_ok, (List.forall_mem_cons.2 ⟨br3_ok, (List.forall_mem_cons.2 ⟨br4_ok, (List.forall_mem_cons.2 ⟨br5_ok, (List.forall_mem_cons.2 ⟨br6_ok, (List.forall_mem_cons.2 ⟨br7_ok, (List.forall_mem_cons.2 ⟨br8_ok, (List.forall_mem_cons.2 ⟨br9_ok, (List.forall_mem_cons.2 ⟨br10_ok, (List.forall_mem_cons.2 ⟨br11_ok, (List.forall_mem_cons.2 ⟨br12_ok, (List.forall_mem_cons.2 ⟨br13_ok, (List.forall_mem_cons.2 ⟨br14_ok, (List.forall_mem_cons.2 ⟨br15_ok, (List.forall_mem_cons.2 ⟨br16_ok, (List.forall_mem_cons.2 ⟨br17_ok, (List.forall_mem_cons.2 ⟨br18_ok, (List.forall_mem_cons.2 ⟨br19_ok, (List.forall_mem_cons.2 ⟨br20_ok, (List.forall_mem_cons.2 ⟨br21_ok, (List.forall_mem_cons.2 ⟨br22_ok, (List.forall_mem_cons.2 ⟨br23_ok, (List.forall_mem_cons.2 ⟨br24_ok, (List.forall_mem_cons.2 ⟨br25_ok, (List.forall_mem_cons.2 ⟨br26_ok, (List.forall_mem_cons.2 ⟨br27_ok, (List.forall_mem_cons.2 ⟨br28_ok, (List.forall_mem_cons.2 ⟨br29_ok, (by intro p h; cases h)⟩)⟩)⟩)⟩)⟩)⟩)⟩)⟩)⟩)⟩)⟩)⟩)⟩)⟩)⟩)⟩)⟩)⟩)⟩)⟩)⟩)⟩)⟩)⟩)⟩)⟩)⟩)⟩)⟩)⟩)
section
variable {b : Base} {W : World}
theorem sum0 : @SumOk Try.prog hook0 b :=
  @sumOk_of hook0 _ _ (@sums_of hook0 _ b [] rfl (by intro q h; cases h) (by intro q h; cases h))
theorem sat_bl [H : Hook] (ht : H.tab 0 = fun _ => blockRows) (hp : H.prim 0 = noPrim 0) (hk : b.Keeps Try.prog laidL tot) : Sat Try.prog b 11 4 := by
  refine ⟨?_, fun a r hr => ?_⟩
  · rw [hp]; exact PrimOk.none
  · rw [ht] at hr
    exact ⟨@row_ok hook0 _ laidL 11 key0 r (blocks_ok r hr), fun _ _ _ hrel hs ho => @memo_of hook0 _ (rows_ok hook0 rfl) mixed g64 laidL tot 11 r key0 _ (sum0 (b := Base.at _ _)) (hk.world hs ho) _ _ hrel (blocks_ok r hr)⟩
theorem sumA (hk : b.Keeps Try.prog laidL tot) : @SumOk Try.prog hookA b :=
  @sumOk_of hookA _ _ (@sums_of hookA _ b sumLA rfl (List.forall_mem_cons.2 ⟨body11, (List.forall_mem_cons.2 ⟨body32, (List.forall_mem_cons.2 ⟨body30, (by intro q h; cases h)⟩)⟩)⟩) (List.forall_mem_cons.2 ⟨@sat_bl b hookA rfl rfl hk, (List.forall_mem_cons.2 ⟨(⟨@sortedInt_ok Try.prog b 32 3 isItJ (sortedAtI b), fun _ r hr => by cases hr⟩ : @Sat hookA Try.prog b 32 5), (List.forall_mem_cons.2 ⟨(⟨@repeatP_ok Try.prog b 30 (repeat_at b), fun _ r hr => by cases hr⟩ : @Sat hookA Try.prog b 30 6), (by intro q h; cases h)⟩)⟩)⟩))
/-- 'awake' answers true, in whatever world -/
theorem awake_ok (hL : LaidOk Try.prog laidL tot W) : Calls Try.prog 4 #[] W fun e w' => e = .returned (.bool true) ∧ Grew W w' :=
  @truth_of hookA _ (rows_ok hookA rfl) mixed g64 laidL tot 4 [] [] W (sumA (b := Base.at W _) (.of_at hL)) hL .nil _ awake_run
theorem sat_aw [Hook] (hk : b.Keeps Try.prog laidL tot) : Sat Try.prog b 4 3 := fun _ hs ho => awake_ok (hk.world hs ho)
theorem sumM (hk : b.Keeps Try.prog laidL tot) : @SumOk Try.prog hookM b :=
  @sumOk_of hookM _ _ (@sums_of hookM _ b sumLM rfl (List.forall_mem_cons.2 ⟨body4, (List.forall_mem_cons.2 ⟨body11, (List.forall_mem_cons.2 ⟨body32, (List.forall_mem_cons.2 ⟨body30, (by intro q h; cases h)⟩)⟩)⟩)⟩) (List.forall_mem_cons.2 ⟨@sat_aw b hookM hk, (List.forall_mem_cons.2 ⟨@sat_bl b hookM rfl rfl hk, (List.forall_mem_cons.2 ⟨(⟨@sortedInt_ok Try.prog b 32 3 isItJ (sortedAtI b), fun _ r hr => by cases hr⟩ : @Sat hookM Try.prog b 32 5), (List.forall_mem_cons.2 ⟨(⟨@repeatP_ok Try.prog b 30 (repeat_at b), fun _ r hr => by cases hr⟩ : @Sat hookM Try.prog b 30 6), (by intro q h; cases h)⟩)⟩)⟩)⟩))
/-- what is known of the argument -/
inductive ArgOk (W : World) : Value → Prop where
  | nil : ArgOk W (.slice none 0 0)
  | row (a : Addr) (len cap : Nat) (zs : List Int) (hl : len ≤ cap) (hm : cap ≤ maxLen) (hz : zs.length = cap) (hcell : ∀ i, i < zs.length → W.cell? (a.add i) = some (.int .i64 (zs.getD i 0))) : ArgOk W (.slice (some a) len cap)
theorem hP : TypesOk Try.prog := ⟨⟩
theorem cell_at0 {a : Addr} {v : Value} (h : W.cell? (a.add 0) = some v) : ∃ B off, a = ⟨B, off, none⟩ := by
  obtain ⟨B, off, spot⟩ := a
  cases spot with
  | some sp =>
    exfalso
    unfold World.cell? Addr.add at h
    split at h <;> simp_all
  | none => exact ⟨B, off, rfl⟩
theorem cell_in {B off i : Nat} {v : Value} (h : W.cell? ((⟨B, off, none⟩ : Addr).add i) = some v) : ∃ C e q, W.heap[B]? = some (.cells C e q) ∧ C[off + i]? = some v := by
  rw [add_plain] at h
  unfold World.cell? at h
  split at h
  · rename_i C e q hO
    exact ⟨C, e, q, hO, by simpa using h⟩
  · cases h
/-- every state at a loop's head ends well -/
theorem good30 (hX : @Env Try.prog hookM b) : ∀ CS0 mch, Go.VM.Reach Try.prog b 3 CS0 mch s30 → Go.VM.Ends Try.prog b 3 CS0 isTrue mch := fun CS0 => @last_ends Try.prog b 3 CS0 hookM isTrue hP hX mixed _ _ last
theorem good29 (hX : @Env Try.prog hookM b) : ∀ CS0 mch, Go.VM.Reach Try.prog b 3 CS0 mch s29 → Go.VM.Ends Try.prog b 3 CS0 isTrue mch := fun CS0 => @join_endsW Try.prog b 3 CS0 hookM isTrue hP hX mixed _ _ _ _ _ _ _ _ _ j29 (good30 hX CS0)
theorem good28 (hX : @Env Try.prog hookM b) : ∀ CS0 mch, Go.VM.Reach Try.prog b 3 CS0 mch s28 → Go.VM.Ends Try.prog b 3 CS0 isTrue mch := fun CS0 => @join_endsW Try.prog b 3 CS0 hookM isTrue hP hX mixed _ _ _ _ _ _ _ _ _ j28 (good29 hX CS0)
theorem good27 (hX : @Env Try.prog hookM b) : ∀ CS0 mch, Go.VM.Reach Try.prog b 3 CS0 mch s27 → Go.VM.Ends Try.prog b 3 CS0 isTrue mch := fun CS0 => @join_endsW Try.prog b 3 CS0 hookM isTrue hP hX mixed _ _ _ _ _ _ _ _ _ j27 (good28 hX CS0)
theorem good26 (hX : @Env Try.prog hookM b) : ∀ CS0 mch, Go.VM.Reach Try.prog b 3 CS0 mch s26 → Go.VM.Ends Try.prog b 3 CS0 isTrue mch := fun CS0 => @join_endsW Try.prog b 3 CS0 hookM isTrue hP hX mixed _ _ _ _ _ _ _ _ _ j26 (good27 hX CS0)
theorem good25 (hX : @Env Try.prog hookM b) : ∀ CS0 mch, Go.VM.Reach Try.prog b 3 CS0 mch s25 → Go.VM.Ends Try.prog b 3 CS0 isTrue mch := fun CS0 => @join_endsW Try.prog b 3 CS0 hookM isTrue hP hX mixed _ _ _ _ _ _ _ _ _ j25 (good26 hX CS0)
theorem good24 (hX : @Env Try.prog hookM b) : ∀ CS0 mch, Go.VM.Reach Try.prog b 3 CS0 mch s24 → Go.VM.Ends Try.prog b 3 CS0 isTrue mch := fun CS0 => @join_endsW Try.prog b 3 CS0 hookM isTrue hP hX mixed _ _ _ _ _ _ _ _ _ j24 (good25 hX CS0)
theorem good23 (hX : @Env Try.prog hookM b) : ∀ CS0 mch, Go.VM.Reach Try.prog b 3 CS0 mch s23 → Go.VM.Ends Try.prog b 3 CS0 isTrue mch := fun CS0 => @join_endsW Try.prog b 3 CS0 hookM isTrue hP hX mixed _ _ _ _ _ _ _ _ _ j23 (good24 hX CS0)
theorem good22 (hX : @Env Try.prog hookM b) : ∀ CS0 mch, Go.VM.Reach Try.prog b 3 CS0 mch s22 → Go.VM.Ends Try.prog b 3 CS0 isTrue mch := fun CS0 => @join_endsW Try.prog b 3 CS0 hookM isTrue hP hX mixed _ _ _ _ _ _ _ _ _ j22 (good23 hX CS0)
theorem good21 (hX : @Env Try.prog hookM b) : ∀ CS0 mch, Go.VM.Reach Try.prog b 3 CS0 mch s21 → Go.VM.Ends Try.prog b 3 CS0 isTrue mch := fun CS0 => @join_endsW Try.prog b 3 CS0 hookM isTrue hP hX mixed _ _ _ _ _ _ _ _ _ j21 (good22 hX CS0)
theorem good20 (hX : @Env Try.prog hookM b) : ∀ CS0 mch, Go.VM.Reach Try.prog b 3 CS0 mch s20 → Go.VM.Ends Try.prog b 3 CS0 isTrue mch := fun CS0 => @join_endsW Try.prog b 3 CS0 hookM isTrue hP hX mixed _ _ _ _ _ _ _ _ _ j20 (good21 hX CS0)
theorem good19 (hX : @Env Try.prog hookM b) : ∀ CS0 mch, Go.VM.Reach Try.prog b 3 CS0 mch s19 → Go.VM.Ends Try.prog b 3 CS0 isTrue mch := fun CS0 => @join_endsW Try.prog b 3 CS0 hookM isTrue hP hX mixed _ _ _ _ _ _ _ _ _ j19 (good20 hX CS0)
theorem good18 (hX : @Env Try.prog hookM b) : ∀ CS0 mch, Go.VM.Reach Try.prog b 3 CS0 mch s18 → Go.VM.Ends Try.prog b 3 CS0 isTrue mch := fun CS0 => @join_endsW Try.prog b 3 CS0 hookM isTrue hP hX mixed _ _ _ _ _ _ _ _ _ j18 (good19 hX CS0)
theorem good17 (hX : @Env Try.prog hookM b) : ∀ CS0 mch, Go.VM.Reach Try.prog b 3 CS0 mch s17 → Go.VM.Ends Try.prog b 3 CS0 isTrue mch := fun CS0 => @join_endsW Try.prog b 3 CS0 hookM isTrue hP hX mixed _ _ _ _ _ _ _ _ _ j17 (good18 hX CS0)
theorem good16 (hX : @Env Try.prog hookM b) : ∀ CS0 mch, Go.VM.Reach Try.prog b 3 CS0 mch s16 → Go.VM.Ends Try.prog b 3 CS0 isTrue mch := fun CS0 => @join_endsW Try.prog b 3 CS0 hookM isTrue hP hX mixed _ _ _ _ _ _ _ _ _ j16 (good17 hX CS0)
theorem good15 (hX : @Env Try.prog hookM b) : ∀ CS0 mch, Go.VM.Reach Try.prog b 3 CS0 mch s15 → Go.VM.Ends Try.prog b 3 CS0 isTrue mch := fun CS0 => @join_endsW Try.prog b 3 CS0 hookM isTrue hP hX mixed _ _ _ _ _ _ _ _ _ j15 (good16 hX CS0)
theorem good14 (hX : @Env Try.prog hookM b) : ∀ CS0 mch, Go.VM.Reach Try.prog b 3 CS0 mch s14 → Go.VM.Ends Try.prog b 3 CS0 isTrue mch := fun CS0 => @join_endsW Try.prog b 3 CS0 hookM isTrue hP hX mixed _ _ _ _ _ _ _ _ _ j14 (good15 hX CS0)
theorem good13 (hX : @Env Try.prog hookM b) : ∀ CS0 mch, Go.VM.Reach Try.prog b 3 CS0 mch s13 → Go.VM.Ends Try.prog b 3 CS0 isTrue mch := fun CS0 => @join_endsW Try.prog b 3 CS0 hookM isTrue hP hX mixed _ _ _ _ _ _ _ _ _ j13 (good14 hX CS0)
theorem good12 (hX : @Env Try.prog hookM b) : ∀ CS0 mch, Go.VM.Reach Try.prog b 3 CS0 mch s12 → Go.VM.Ends Try.prog b 3 CS0 isTrue mch := fun CS0 => @join_endsW Try.prog b 3 CS0 hookM isTrue hP hX mixed _ _ _ _ _ _ _ _ _ j12 (good13 hX CS0)
theorem good11 (hX : @Env Try.prog hookM b) : ∀ CS0 mch, Go.VM.Reach Try.prog b 3 CS0 mch s11 → Go.VM.Ends Try.prog b 3 CS0 isTrue mch := fun CS0 => @join_endsW Try.prog b 3 CS0 hookM isTrue hP hX mixed _ _ _ _ _ _ _ _ _ j11 (good12 hX CS0)
theorem good10 (hX : @Env Try.prog hookM b) : ∀ CS0 mch, Go.VM.Reach Try.prog b 3 CS0 mch s10 → Go.VM.Ends Try.prog b 3 CS0 isTrue mch := fun CS0 => @join_endsW Try.prog b 3 CS0 hookM isTrue hP hX mixed _ _ _ _ _ _ _ _ _ j10 (good11 hX CS0)
theorem good9 (hX : @Env Try.prog hookM b) : ∀ CS0 mch, Go.VM.Reach Try.prog b 3 CS0 mch s9 → Go.VM.Ends Try.prog b 3 CS0 isTrue mch := fun CS0 => @join_endsW Try.prog b 3 CS0 hookM isTrue hP hX mixed _ _ _ _ _ _ _ _ _ j9 (good10 hX CS0)
theorem good8 (hX : @Env Try.prog hookM b) : ∀ CS0 mch, Go.VM.Reach Try.prog b 3 CS0 mch s8 → Go.VM.Ends Try.prog b 3 CS0 isTrue mch := fun CS0 => @join_endsW Try.prog b 3 CS0 hookM isTrue hP hX mixed _ _ _ _ _ _ _ _ _ j8 (good9 hX CS0)
theorem good7 (hX : @Env Try.prog hookM b) : ∀ CS0 mch, Go.VM.Reach Try.prog b 3 CS0 mch s7 → Go.VM.Ends Try.prog b 3 CS0 isTrue mch := fun CS0 => @join_endsW Try.prog b 3 CS0 hookM isTrue hP hX mixed _ _ _ _ _ _ _ _ _ j7 (good8 hX CS0)
theorem good6 (hX : @Env Try.prog hookM b) : ∀ CS0 mch, Go.VM.Reach Try.prog b 3 CS0 mch s6 → Go.VM.Ends Try.prog b 3 CS0 isTrue mch := fun CS0 => @join_endsW Try.prog b 3 CS0 hookM isTrue hP hX mixed _ _ _ _ _ _ _ _ _ j6 (good7 hX CS0)
theorem good5 (hX : @Env Try.prog hookM b) : ∀ CS0 mch, Go.VM.Reach Try.prog b 3 CS0 mch s5 → Go.VM.Ends Try.prog b 3 CS0 isTrue mch := fun CS0 => @join_endsW Try.prog b 3 CS0 hookM isTrue hP hX mixed _ _ _ _ _ _ _ _ _ j5 (good6 hX CS0)
theorem good4 (hX : @Env Try.prog hookM b) : ∀ CS0 mch, Go.VM.Reach Try.prog b 3 CS0 mch s4 → Go.VM.Ends Try.prog b 3 CS0 isTrue mch := fun CS0 => @join_endsW Try.prog b 3 CS0 hookM isTrue hP hX mixed _ _ _ _ _ _ _ _ _ j4 (good5 hX CS0)
theorem good3 (hX : @Env Try.prog hookM b) : ∀ CS0 mch, Go.VM.Reach Try.prog b 3 CS0 mch s3 → Go.VM.Ends Try.prog b 3 CS0 isTrue mch := fun CS0 => @join_endsW Try.prog b 3 CS0 hookM isTrue hP hX mixed _ _ _ _ _ _ _ _ _ j3 (good4 hX CS0)
theorem good2 (hX : @Env Try.prog hookM b) : ∀ CS0 mch, Go.VM.Reach Try.prog b 3 CS0 mch s2 → Go.VM.Ends Try.prog b 3 CS0 isTrue mch := fun CS0 => @join_endsW Try.prog b 3 CS0 hookM isTrue hP hX mixed _ _ _ _ _ _ _ _ _ j2 (good3 hX CS0)
theorem good1 (hX : @Env Try.prog hookM b) : ∀ CS0 mch, Go.VM.Reach Try.prog b 3 CS0 mch s1 → Go.VM.Ends Try.prog b 3 CS0 isTrue mch := fun CS0 => @join_endsW Try.prog b 3 CS0 hookM isTrue hP hX mixed _ _ _ _ _ _ _ _ _ j1 (good2 hX CS0)
theorem good0 (hX : @Env Try.prog hookM b) : ∀ CS0 mch, Go.VM.Reach Try.prog b 3 CS0 mch s0 → Go.VM.Ends Try.prog b 3 CS0 isTrue mch := fun CS0 => @join_endsW Try.prog b 3 CS0 hookM isTrue hP hX mixed _ _ _ _ _ _ _ _ _ j0 (good1 hX CS0)
theorem free_ok : freeSymO [(keyL, .ivl 1 9223372036854775808)] ⟨startT laidL Try.prog.globals.size, keyN 4096⟩ = true := by kernel_rfl
theorem none_ok : noneAt (putSymO [(keyL, .ivl 1 9223372036854775808)] ⟨startT laidL Try.prog.globals.size, keyN 4096⟩) keyA = true := by kernel_rfl
/-- the law answers true, in whatever world -/
theorem law_ok (hL : LaidOk Try.prog laidL tot W) {V : Value} (hV : ArgOk W V) : Calls Try.prog 3 ⟨[V]⟩ W fun e w' => e = .returned (.bool true) ∧ Grew W w' := by
  have hX : @Env Try.prog hookM (Base.at W (startRho tot Try.prog.globals.size)) := @Env.mk Try.prog hookM _ (@extOk_of_rows hookM _ (rows_ok hookM rfl)) (sumM (b := Base.at W _) (.of_at hL))
  cases hV with
  | nil => exact @truth_of hookM _ (rows_ok hookM rfl) mixed g64 laidL tot 3 [.nilSlice] [.slice none 0 0] W (sumM (b := Base.at W _) (.of_at hL)) hL (.cons _ _ _ _ .nilSlice .nil) _ run_nil
  | row a len cap zs hl hmx hz hcell =>
    by_cases h0 : len = 0
    · subst h0
      exact @truth_of hookM _ (rows_ok hookM rfl) mixed g64 laidL tot 3 [.emptyS] [.slice (some a) 0 cap] W (sumM (b := Base.at W _) (.of_at hL)) hL (.cons _ _ _ _ (.emptyS a cap) .nil) _ run_emp
    obtain ⟨B, off, rfl⟩ := cell_at0 (hcell 0 (by omega))
    obtain ⟨C, e, q, hO, _⟩ := cell_in (hcell 0 (by omega))
    have hmax : len < 9223372036854775808 := by have : cap ≤ 9223372036854775807 := hmx; omega
    refine row_callsG g64 hL (Nat.lt_of_lt_of_le (by decide +kernel : 0 < Try.prog.globals.size) hL.1) (js := [len]) free_ok ⟨⟨by omega, hmax⟩, trivial⟩ none_ok hO (base := off) (M := ⟨0, len, 0⟩) (by simp [symRhoO, Rho.add]) ?_ ?_ (.cons _ _ _ _ (.sliceG keyA keyL ⟨B, off, C.size⟩ ⟨0, len, 0⟩ cap (Rho.add_same _ _ _) ?_) .nil) (good0 hX) ⟨_, (body_of Try.func3 (by kernel_rfl) (by kernel_rfl)).choose_spec⟩
    · intro i hi
      have hi : i < len := hi
      obtain ⟨C', e', q', h2, h3⟩ := cell_in (hcell i (by omega))
      rw [hO] at h2; cases h2
      obtain ⟨j, hj, hr⟩ := red_rem 1 (by decide) (zs.getD i 0)
      obtain rfl : j = 0 := by omega
      exact ⟨_, h3, .red _ _ _ _ _ hr⟩
    · intro g o _ hl; cases hl
    · simp [symRhoO, Rho.add, keyA, keyL]
end
theorem own : ownKnob Try.prog.godebug = none := by kernel_rfl
theorem laid_of {W : World} (hs : Try.prog.globals.size ≤ W.heap.size) : LaidOk Try.prog laidL tot W := ⟨hs, fun g o _ hl N ρ => by cases hl⟩
theorem heap_size {W : World} (h : W.ShapedOpen Try.prog) : Try.prog.globals.size ≤ W.heap.size := by
  obtain ⟨o, _, ho, _⟩ := h.2 _ (Nat.le_refl _) (of_decide_eq_true (by kernel_rfl))
  exact Nat.le_of_lt (Array.getElem?_eq_some_iff.1 ho).1
theorem same_of_grew {W W' : World} (hg : Grew W W') {p : MemPlace} (hp : p.block < W.heap.size) : W.sameAt W' p := by
  cases p with
  | cell b o => exact World.cell?_of_block (w := W) (hg.old b hp)
  | map b => exact hg.old b hp
set_option maxRecDepth 100000 in
theorem lifted0 (os : Os) (started : os.Started) (H : Type) (enc : TypeId × Value → H) :
    ReturnsInHanded {} Try.checked os 3 .any (fun w args => (Rows.journalQuietSpec.pre enc Try.prog Try.f3 Rows.journalQuietRow.domain false w args ∧ True) ∧ sizedMet enc Try.prog Try.f3 (OpenSpec.ofChange Rows.journalQuietSpec) false w args)
      (Rows.journalQuietSpec.post enc Try.prog Try.f3 false true false false) := by
  refine handed_of (C := Try.checked) (X := fun _ _ => True) (fun _ _ _ _ h => h) own started (by kernel_rfl) Try.func3
    (ChangeSpec.witness_shaped (enc := enc) (C := Try.checked) (os := os) (X := fun _ _ => True) false (World.laidAll Try.prog os Rows.journalQuietRow.laid) #[.slice none 0 0] 8 (World.laidAll_os _ _ _)
      (World.shaped_of_ZipB (by kernel_rfl) (by kernel_rfl)) (by kernel_rfl) (by kernel_rfl) (by kernel_rfl) trivial) ?_
  intro W base args ds gs before hval0 hW _ hsh
  have hW' := hW
  obtain ⟨p, q, hA0, hV, rfl, _, _⟩ := hW
  have hA : DataW.TrodAll enc Try.prog W 0 (fun _ => true) true Try.f3.params.toList args.toList ds p := hA0
  rw [Try.params3] at hA
  obtain ⟨v0, d0, rfl, rfl, h0⟩ := trodAll_one hA
  obtain ⟨a0, len, cap, rfl⟩ := okWide_slice Try.underlying22 (hval0 0 22 v0 (by rw [← Array.getElem?_toList, Try.params3]; rfl) rfl)
  have h0k := h0
  obtain ⟨fuel, hf⟩ := h0
  obtain ⟨rfl, rfl⟩ := trodVars_none hV
  have hlt : ∀ x ∈ p, x.block < W.heap.size := fun x hx => by simpa using hW'.lt x (List.mem_append_left _ hx)
  have hV0 : ArgOk W (.slice a0 len cap) := by
    rcases open_ints Try.underlying22 Try.underlying3 (by kernel_rfl : Try.prog.cellsOf 3 = 1) hf with ⟨hcs, _⟩ | ⟨a, len', cap', zs, hcs, _, hl, hmx, hz, _, hcell, _⟩
    · simp [Value.cells] at hcs
      obtain ⟨rfl, rfl, rfl⟩ := hcs
      exact .nil
    · simp [Value.cells] at hcs
      obtain ⟨rfl, rfl, rfl⟩ := hcs
      exact .row _ _ _ zs hl hmx (by simpa using hz) hcell
  refine (law_ok (laid_of (heap_size hsh)) hV0).mono fun e W' ⟨he, hg⟩ => ?_
  subst he
  refine ⟨_, rfl, ⟨_, _, _, [], p, [], hW', trodAll_mk1 (shut_bool Try.underlying4 _), ?_, rfl, keptBut_of_grew hg, fun h => by cases h⟩⟩
  rw [Try.params3]
  exact trodAll_mk1 (WideElems.Trod_stays (by kernel_rfl) (by kernel_rfl) (of_decide_eq_true (by kernel_rfl)) h0k (fun x hx => same_of_grew hg (hlt x hx)) (fun x hx => by simpa using hlt x hx))
theorem lifted (os : Os) (started : os.Started) (H : Type) (enc : TypeId × Value → H) :
    ReturnsInHanded {} Try.checked os 3 .any (fun w args => Rows.journalQuietSpec.pre enc Try.prog Try.f3 Rows.journalQuietRow.domain false w args ∧ sizedMet enc Try.prog Try.f3 (OpenSpec.ofChange Rows.journalQuietSpec) false w args)
      (Rows.journalQuietSpec.post enc Try.prog Try.f3 false true false false) := by
  have h := lifted0 os started H enc
  have e : (fun (w : World) (args : Array Value) => (Rows.journalQuietSpec.pre enc Try.prog Try.f3 Rows.journalQuietRow.domain false w args ∧ True) ∧ sizedMet enc Try.prog Try.f3 (OpenSpec.ofChange Rows.journalQuietSpec) false w args) = (fun w args => Rows.journalQuietSpec.pre enc Try.prog Try.f3 Rows.journalQuietRow.domain false w args ∧ sizedMet enc Try.prog Try.f3 (OpenSpec.ofChange Rows.journalQuietSpec) false w args) := by
    funext w args; rw [and_true]
  rw [e] at h
  exact h
end Go.Proofs.Ytaoackhjaoofnaa

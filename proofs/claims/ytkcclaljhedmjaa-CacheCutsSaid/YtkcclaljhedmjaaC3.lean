/- Open behind a cut, Format, disk.New. No conditions. -/
import Derived.Test.YtkcclaljhedmjaaC2
namespace Go.Proofs.Ytkcclaljhedmjaa
open Go.RowKit Go.Maps
section
variable {p : Pl} {w : World} {d ib : Nat} {f : Nat → List Nat} {off cut : Bool} {writes : Int} {S : Int → Option ByteArray} {m : Nat} {ks : List Nat}
def OpenAny (p : Pl) (d ib : Nat) (cut : Bool) (S : Int → Option ByteArray) (h0 : Nat → List Nat) (ks : List Nat) (w : World) (e : Ending) (w' : World) : Prop :=
  ∃ f' off' writes', Kp (fun i => i = d ∨ i = ib) w w' ∧ (off' = true → cut = true) ∧
    ((∃ j mb, w.heap.size ≤ j ∧ w.heap.size ≤ mb ∧ e = .returned (.tuple #[.pointer (some ⟨j, 0, none⟩), .int .i64 0]) ∧ JX p w' j d mb ib f' off' cut writes' false (fun _ => none) 0 ∧ (Rest p (headL []) f' h0 ∨ Rest p (headL []) f' (over h0 (stgN S)))) ∨
     (e = .returned (.tuple #[.pointer none, .int .i64 603]) ∧ DX p w' d ib f' off' cut writes' ∧ off' = true ∧ Cutted p headL f' h0 (stgN S) ks))
theorem ksOf_none : KsOf (fun _ => none) 0 [] := ⟨List.Pairwise.nil, fun k => by simp, rfl⟩
theorem stg_none (p : Pl) : Stg p (fun _ => none) 0 := ⟨fun k s h => (by cases h), by omega⟩
theorem under_nil {h0 : Nat → List Nat} (hks : KsOf S m ks) (hm : m = 0) (hU : Under p headL f h0 (stgN S) ks 0) : Rest p (headL []) f h0 := by
  have e : ks = [] := List.eq_nil_of_length_eq_zero (by rw [hks.len, hm])
  subst e
  refine ⟨hU.hd, fun k hk => hU.out k hk ?_⟩
  rw [stgN]
  cases h : S (k : Int) with
  | none => rfl
  | some s => have := (hks.mem k).2 (by rw [h]; rfl); simp at this
theorem open_rest {h0 h1 : Nat → List Nat} (h : DX p w d ib f false cut writes) (hr : Rest p (headL []) f h1) (h01 : h1 = h0 ∨ h1 = over h0 (stgN S)) : Calls Try.prog 18 #[.pointer (some ⟨d, 0, none⟩), .int .i64 (p.fr : Int), .int .i64 (p.bl : Int)] w (OpenAny p d ib cut S h0 ks w) := by
  refine (open_core (h0 := h1) h (stg_none p) ksOf_none hr.1 (fun i _ hi => by simp at hi) (fun e => absurd e (by omega))).mono ?_
  rintro e w' ⟨f', off', writes', hK, hoc, hway⟩
  rcases hway with ⟨j, mb, hj, hm, rfl, hJ, hw⟩ | ⟨hm, _⟩
  · rcases hw with ⟨_, rfl, rfl⟩ | ⟨hm, _⟩
    · refine ⟨f', false, writes', hK, hoc, .inl ⟨j, mb, hj, hm, rfl, hJ, ?_⟩⟩
      rcases h01 with rfl | rfl
      · exact .inl hr
      · exact .inr hr
    · omega
  · omega
theorem open_any {h0 : Nat → List Nat} (h : DX p w d ib f false cut writes) (hS : Stg p S m) (hks : KsOf S m ks) (hc : Cutted p headL f h0 (stgN S) ks) : Calls Try.prog 18 #[.pointer (some ⟨d, 0, none⟩), .int .i64 (p.fr : Int), .int .i64 (p.bl : Int)] w (OpenAny p d ib cut S h0 ks w) := by
  rcases hc with hr | hU | hr
  · exact open_rest h hr (.inl rfl)
  · by_cases hm : m = 0
    · exact open_rest h (under_nil hks hm hU) (.inl rfl)
    · refine (open_core (h0 := h0) h hS hks hU.hd hU.log (fun _ => hU)).mono ?_
      rintro e w' ⟨f', off', writes', hK, hoc, hway⟩
      rcases hway with ⟨j, mb, hj, hmb, rfl, hJ, hw⟩ | ⟨_, rfl, hD, hoo, hU⟩
      · rcases hw with ⟨h0, _⟩ | ⟨_, hR⟩
        · exact absurd h0 hm
        · exact ⟨f', off', writes', hK, hoc, .inl ⟨j, mb, hj, hmb, rfl, hJ, .inr hR⟩⟩
      · exact ⟨f', off', writes', hK, hoc, .inr ⟨rfl, hD, hoo, .inr (.inl hU)⟩⟩
  · exact open_rest h hr (.inr rfl)
theorem flat_zero (n : Nat) : flat (fun _ => zeroL) n = List.replicate (256 * n) 0 := by
  induction n with
  | zero => rfl
  | succ n ih =>
    rw [flat, ih, Nat.mul_add, Nat.mul_one, ← List.replicate_append_replicate]
    rfl
def NewPost (p : Pl) (w : World) (e : Ending) (w' : World) : Prop := ∃ d ib, w.heap.size ≤ d ∧ w.heap.size ≤ ib ∧ e = .returned (.tuple #[.pointer (some ⟨d, 0, none⟩), .int .i64 0]) ∧ DX p w' d ib (fun _ => zeroL) false false 0 ∧ Kp (fun _ => False) w w'
set_option maxHeartbeats 1000000 in
theorem new_any (p : Pl) (w : World) : Calls Try.prog 6 #[.int .i64 (p.n : Int)] w (NewPost p w) := by
  have hp := p.ok
  have hmk := mk_bytes w (256 * p.n) (by omega)
  have e1 : ((256 * p.n : Nat) : Int) = (p.n : Int) * 256 := by omega
  rw [e1] at hmk
  have h0 : decide ((p.n : Int) < 1) = false := by simp; omega
  have h1 : decide ((65536 : Int) < (p.n : Int)) = false := by simp; omega
  go_enter Try.func6, Try.ntmps6
  go_wp2
  go_ret2
  refine ⟨w.heap.size + 1, w.heap.size, Nat.le_succ _, Nat.le_refl _, by simp, ⟨0, ?_, ?_, fun _ => zeroL_len, fun _ b hb => ?_, (by unfold wrap64; omega)⟩, (kp_alloc _ _ _).alloc _⟩
  · have := heap_alloc_new (w.alloc (.cells (cellsOf (List.replicate (256 * p.n) 0)) 5)) (.cells #[.slice (some ⟨w.heap.size, 0, none⟩) (256 * p.n) (256 * p.n), .bool false, .bool false, .int .i64 0, .int .i64 0] 66)
    simpa using this
  · rw [flat_zero]
    exact (heap_alloc_old _ _ (by simp)).trans (heap_alloc_new w _)
  · have := List.eq_of_mem_replicate hb
    omega
def FmtPost (p : Pl) (d ib : Nat) (f : Nat → List Nat) (cut : Bool) (writes : Int) (w : World) (e : Ending) (w' : World) : Prop :=
  ∃ j mb off', w.heap.size ≤ j ∧ w.heap.size ≤ mb ∧ e = .returned (.tuple #[.pointer (some ⟨j, 0, none⟩), .int .i64 0]) ∧ JX p w' j d mb ib (upd f p.fr (headL [])) off' cut (wrap64 (writes + 1)) false (fun _ => none) 0 ∧ (off' = true → cut = true) ∧ Kp (fun i => i = d ∨ i = ib) w w'
set_option maxHeartbeats 1000000 in
theorem fmt_any (h : DX p w d ib f false cut writes) : Calls Try.prog 7 #[.pointer (some ⟨d, 0, none⟩), .int .i64 (p.fr : Int), .int .i64 (p.bl : Int)] w (FmtPost p d ib f cut writes w) := by
  have hp := p.ok
  have hfair := fair_any h
  obtain ⟨left0, hD⟩ := h
  have hne : d ≠ ib := by
    rintro rfl
    have := hD.row; rw [hD.img] at this; simp at this
  have hhead := head_any w (.slice none 0 0) [] (by simp) (by simp) (.inl ⟨rfl, rfl⟩)
  have hsz : (strB (headL [])).size = 256 := by rw [strB_size, headL_length _ (by simp)]
  have hmm := fun w => run_makeMap (P := Try.prog) 31 w
  go_enter Try.func7, Try.ntmps7
  go_wp2_with (first | (go_at_call 29; refine Calls.mono hfair ?_; rintro e w' ⟨rfl, rfl⟩) | (go_at_call 31; refine Calls.mono hhead ?_; rintro e w2 ⟨rfl, hK2⟩; have hwr := dwrite_ok w2 d ib p.n f cut left0 writes p.fr (strB (headL [])) (by omega) hsz hne (by omega) ⟨(hK2.block d (blk_lt hD.row) (fun e => e)).trans hD.row, (hK2.block ib (blk_lt hD.img) (fun e => e)).trans hD.img, hD.len, hD.byt, hD.wr⟩) | (go_at_call 30; refine Calls.mono hwr ?_; rintro e w3 ⟨rfl, hD3, hK3, hz3⟩))
  go_ret2
  have hs2 := hK2.size
  rw [bytesOf_strB _ (headL_byte [])] at hD3
  have hK4 := (kp_alloc (fun _ => False) w3 (.map #[] 0)).alloc (.cells #[.pointer (some ⟨d, 0, none⟩), .int .i64 (p.fr : Int), .int .i64 (p.bl : Int), .map (some w2.heap.size), .bool false] 70)
  have hM := mapAt_made w3
  rw [hz3] at hM
  refine ⟨w2.heap.size + 1, w2.heap.size, _, by omega, by omega, by simp, ⟨_, ⟨(hK4.block d (blk_lt hD3.row) (fun e => e)).trans hD3.row, (hK4.block ib (blk_lt hD3.img) (fun e => e)).trans hD3.img, hD3.len, hD3.byt, hD3.wr⟩, ?_, ?_⟩, fun e => ?_, (hK2.imp fun _ e => e.elim).trans (hK3.trans (hK4.imp fun _ e => e.elim))⟩
  · have := heap_alloc_new (w3.alloc (.map #[] 0)) (.cells #[.pointer (some ⟨d, 0, none⟩), .int .i64 (p.fr : Int), .int .i64 (p.bl : Int), .map (some w2.heap.size), .bool false] 70)
    simpa [JAt, hz3] using this
  · rw [strM_none']
    exact hM.kp (kp_alloc (fun _ => False) _ _) (fun e => e)
  · simp at e
    exact e.1
end
end Go.Proofs.Ytkcclaljhedmjaa

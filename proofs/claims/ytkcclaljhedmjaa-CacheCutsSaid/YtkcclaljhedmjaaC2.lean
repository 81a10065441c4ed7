/- Open. No conditions. -/
import Derived.Test.YtkcclaljhedmjaaC1
import Derived.Lib.Hide
namespace Go.Proofs.Ytkcclaljhedmjaa
open Go.RowKit Go.Maps
/-- what is written is allowed, or new -/
theorem Kp.new {S F : Nat → Prop} {w w1 w2 : World} (h : Kp S w w1) (h2 : Kp F w1 w2) (hF : ∀ k, F k → S k ∨ w.heap.size ≤ k) : Kp S w w2 :=
  ⟨h2.os.trans h.os, h2.tape.trans h.tape, h2.output.trans h.output, Nat.le_trans h.size h2.size, fun k hk hn => (h2.block k (Nat.lt_of_lt_of_le hk h.size) (fun e => (hF k e).elim hn (fun e => by omega))).trans (h.block k hk hn)⟩
/-- the first i homes of what is staged -/
def restrS (S : Int → Option ByteArray) (ks : List Nat) (i : Nat) : Int → Option ByteArray := fun k => if 0 ≤ k ∧ k.toNat ∈ ks.take i then S k else none
theorem restr_zero (S : Int → Option ByteArray) (ks : List Nat) : restrS S ks 0 = fun _ => none := by
  funext k; simp [restrS]
theorem restr_new {S : Int → Option ByteArray} {ks : List Nat} {i x : Nat} (hn : ks.Nodup) (hx : ks[i]? = some x) : restrS S ks i (x : Int) = none := by
  rw [restrS, if_neg]
  rintro ⟨_, h⟩
  rw [Int.toNat_natCast] at h
  obtain ⟨j, hj, e⟩ := List.getElem_of_mem h
  rw [List.getElem_take] at e
  have hj2 : j < i := by simp at hj; omega
  obtain ⟨hi, hxi⟩ := List.getElem?_eq_some_iff.1 hx
  have := (List.getElem_inj hn).1 (e.trans hxi.symm)
  omega
theorem restr_succ {S : Int → Option ByteArray} {ks : List Nat} {i x : Nat} {s : ByteArray} (hx : ks[i]? = some x) (hs : S (x : Int) = some s) : putS (restrS S ks i) (x : Int) s = restrS S ks (i + 1) := by
  funext k
  unfold putS restrS
  rw [List.take_add_one, hx]
  by_cases hk : k = (x : Int)
  · subst hk
    rw [if_pos rfl, if_pos]
    · exact hs.symm
    · simp
  · rw [if_neg hk]
    by_cases h1 : 0 ≤ k ∧ k.toNat ∈ ks.take i
    · rw [if_pos h1, if_pos]
      exact ⟨h1.1, by simp [h1.2]⟩
    · rw [if_neg h1, if_neg]
      rintro ⟨h2, h3⟩
      simp only [Option.toList_some, List.mem_append, List.mem_singleton] at h3
      rcases h3 with h3 | h3
      · exact h1 ⟨h2, h3⟩
      · exact hk (by omega)
theorem restr_all {p : Pl} {S : Int → Option ByteArray} {m : Nat} {ks : List Nat} (hks : KsOf S m ks) (hS : Stg p S m) : restrS S ks ks.length = S := by
  funext k
  unfold restrS
  rw [List.take_length]
  by_cases h : 0 ≤ k ∧ k.toNat ∈ ks
  · rw [if_pos h]
  · rw [if_neg h]
    cases hk : S k with
    | none => rfl
    | some s =>
      obtain ⟨⟨n, rfl, _⟩, _⟩ := hS.home k s hk
      exact absurd ⟨by omega, by rw [Int.toNat_natCast, hks.mem, hk]; rfl⟩ h
section
variable {p : Pl} {w : World} {d ib : Nat} {f : Nat → List Nat} {off cut : Bool} {writes : Int} {S : Int → Option ByteArray} {m : Nat} {ks : List Nat}
def OpenOff (w : World) (e : Ending) (w' : World) : Prop := e = .returned (.tuple #[.pointer none, .int .i64 603]) ∧ w' = w
set_option maxHeartbeats 1000000 in
theorem open_off (h : DX p w d ib f true cut writes) : Calls Try.prog 18 #[.pointer (some ⟨d, 0, none⟩), .int .i64 (p.fr : Int), .int .i64 (p.bl : Int)] w (OpenOff w) := by
  have hfair := fair_any h
  go_enter Try.func18, Try.ntmps18
  go_wp2_with (go_at_call 29; refine Calls.mono hfair ?_; rintro e w' ⟨rfl, rfl⟩)
  go_ret2
  exact ⟨rfl, rfl⟩
def OpenRel (p : Pl) (d ib : Nat) (f : Nat → List Nat) (cut : Bool) (writes : Int) (S : Int → Option ByteArray) (ks : List Nat) (w : World) (j mb : Nat) (k : Nat) (wr : World) : Prop :=
  JX p wr j d mb ib f false cut writes false (restrS S ks k) k ∧ Kp (fun _ => False) w wr
/-- opened: what was under way is home, or the power is off -/
def OpenPost (p : Pl) (d ib : Nat) (f : Nat → List Nat) (cut : Bool) (S : Int → Option ByteArray) (m : Nat) (h0 : Nat → List Nat) (ks : List Nat) (w : World) (e : Ending) (w' : World) : Prop :=
  ∃ f' off' writes', Kp (fun i => i = d ∨ i = ib) w w' ∧ (off' = true → cut = true) ∧
    ((∃ j mb, w.heap.size ≤ j ∧ w.heap.size ≤ mb ∧ e = .returned (.tuple #[.pointer (some ⟨j, 0, none⟩), .int .i64 0]) ∧ JX p w' j d mb ib f' off' cut writes' false (fun _ => none) 0 ∧ ((m = 0 ∧ f' = f ∧ off' = false) ∨ (0 < m ∧ Rest p (headL []) f' (over h0 (stgN S))))) ∨
     (0 < m ∧ e = .returned (.tuple #[.pointer none, .int .i64 603]) ∧ DX p w' d ib f' off' cut writes' ∧ off' = true ∧ Under p headL f' h0 (stgN S) ks 0))
set_option maxHeartbeats 2000000 in
set_option maxRecDepth 100000 in
theorem open_core {h0 : Nat → List Nat} (h : DX p w d ib f false cut writes) (hS : Stg p S m) (hks : KsOf S m ks) (hhead : f p.fr = headL ks) (hlog : Logged p f (stgN S) ks ks.length) (hU : 0 < m → Under p headL f h0 (stgN S) ks 0) :
    Calls Try.prog 18 #[.pointer (some ⟨d, 0, none⟩), .int .i64 (p.fr : Int), .int .i64 (p.bl : Int)] w (OpenPost p d ib f cut S m h0 ks w) := by
  have hp := p.ok
  have hg := hks.grp hS
  have hfew := hS.few
  have hlen := hks.len
  have hfair := fair_any h
  obtain ⟨left0, hD⟩ := h
  have hrd := dread_any w d ib p.n f false cut left0 writes p.fr (by omega) hD
  have hin : (decide ((0 : Int) ≤ (p.fr : Int)) && decide ((p.fr : Int) < (p.n : Int))) = true := by simp; omega
  unfold ReadPost at hrd
  simp only [hin, cond_true, cond_false, Int.toNat_natCast, hhead] at hrd
  have hsz : (strB (headL ks)).size = 256 := by rw [strB_size, headL_length _ hg.few]
  have hx4 : ((strB (headL ks)).extract 4 8).size = 4 := by rw [ByteArray.size_extract, hsz]; rfl
  have hmany := fun w => ofle_any ((strB (headL ks)).extract 4 8) (by omega) (by omega) w
  unfold OfLePost at hmany
  rw [head_many ks hg.few] at hmany
  have hpf := fun w => hasPrefix_any (strB (headL ks)) { data := #[79, 74, 82, 78] } (by rw [hsz]; decide) w
  rw [pfx_head] at hpf
  have hmm := fun w => run_makeMap (P := Try.prog) 31 w
  have hhx : ∀ k, k < ks.length → ((strB (headL ks)).extract (8 + 4 * k) (12 + 4 * k)).size = 4 ∧ leN (bytesOf ((strB (headL ks)).extract (8 + 4 * k) (12 + 4 * k))) = ks.getD k 0 := fun k hk => by
    refine ⟨by rw [ByteArray.size_extract, hsz]; omega, head_home ks k hk ?_⟩
    have := (hg.home _ (getD_mem hk)).1
    omega
  replace hhx := Lib.hid hhx
  have hrel0 : OpenRel p d ib f cut writes S ks w (w.heap.size + 1) w.heap.size 0 ((w.alloc (.map #[] 0)).alloc (.cells #[.pointer (some ⟨d, 0, none⟩), .int .i64 (p.fr : Int), .int .i64 (p.bl : Int), .map (some w.heap.size), .bool false] 70)) := by
    have hK := (kp_alloc (fun _ => False) w (.map #[] 0)).alloc (.cells #[.pointer (some ⟨d, 0, none⟩), .int .i64 (p.fr : Int), .int .i64 (p.bl : Int), .map (some w.heap.size), .bool false] 70)
    refine ⟨⟨left0, ⟨(hK.block d (blk_lt hD.row) (fun e => e)).trans hD.row, (hK.block ib (blk_lt hD.img) (fun e => e)).trans hD.img, hD.len, hD.byt, hD.wr⟩, ?_, ?_⟩, hK⟩
    · have := heap_alloc_new (w.alloc (.map #[] 0)) (.cells #[.pointer (some ⟨d, 0, none⟩), .int .i64 (p.fr : Int), .int .i64 (p.bl : Int), .map (some w.heap.size), .bool false] 70)
      simpa [JAt] using this
    · rw [restr_zero, strM_none']
      exact (mapAt_made w).kp (kp_alloc (fun _ => False) _ _) (fun e => e)
  generalize strB (headL ks) = hd at *
  go_enter Try.func18, Try.ntmps18
  go_wp2_with (first | (go_at_call 29; refine Calls.mono hfair ?_; rintro e w' ⟨rfl, rfl⟩) | (go_at_call 39; refine Calls.mono hrd ?_; rintro e w' ⟨rfl, rfl⟩) | (go_at_call 41; refine Calls.mono (hmany _) ?_; rintro e w' ⟨rfl, rfl⟩) | (go_at_call 42; refine Calls.mono (hpf _) ?_; rintro e w' ⟨rfl, rfl⟩))
  clear hrd hfair
  go_loopw [57] (fun i wr => ∃ k : Nat, i = .int .i64 k ∧ k ≤ m ∧ OpenRel p d ib f cut writes S ks w' (w'.heap.size + 1) w'.heap.size k wr) (fun i _ => m - (RowKit.intOf i).toNat)
  case atStart => exact ⟨0, rfl, by omega, hrel0⟩
  case round =>
    obtain ⟨k, rfl, hkn, ⟨left, hJ⟩, hKp⟩ := hrel
    by_cases hlt : k < m
    · have g3 : decide ((k : Int) < (m : Int)) = true := by simp; omega
      obtain ⟨x, hxk⟩ : ∃ x, ks[k]? = some x := ⟨_, List.getElem?_eq_getElem (by omega)⟩
      have hxh := hg.home x (List.mem_of_getElem? hxk)
      have hgd : ks.getD k 0 = x := by rw [List.getD_eq_getElem?_getD, hxk]; rfl
      obtain ⟨s, hs⟩ := Option.isSome_iff_exists.1 ((hks.mem x).1 (List.mem_of_getElem? hxk))
      have hsf : s = strB (f (p.fr + 1 + k)) := by
        have := hlog k (by omega) (by omega)
        rw [hgd, stgN, hs] at this
        rw [← strB_bytesOf s]
        exact congrArg strB (Option.some.inj this)
      subst hsf
      obtain ⟨hx6, hxv⟩ := hhx.out k (by omega)
      have hat := fun w => ofle_any (hd.extract (8 + 4 * k) (12 + 4 * k)) (by omega) (by omega) w
      unfold OfLePost at hat
      rw [hxv, hgd] at hat
      clear hxv
      have hrd2 := dread_any wr d ib p.n f false cut left writes ((p.fr + 1 + k : Nat) : Int) (by omega) hJ.disk
      have hin2 : (decide ((0 : Int) ≤ ((p.fr + 1 + k : Nat) : Int)) && decide (((p.fr + 1 + k : Nat) : Int) < (p.n : Int))) = true := by simp; omega
      unfold ReadPost at hrd2
      simp only [hin2, cond_true, cond_false, Int.toNat_natCast] at hrd2
      have hhome := hJ.home (x : Int)
      rw [homeB_of ⟨x, rfl, hxh⟩] at hhome
      have hst := fun q => (hJ.quiet q).map.store (by omega) Try.underlying31 (wf_i64 (n := (x : Int)) (by have := hxh.1; omega)) (.string (strB (f (p.fr + 1 + k))))
      have e3 : ((p.fr + 1 + k : Nat) : Int) = (p.fr : Int) + 1 + (k : Int) := by omega
      rw [e3] at hrd2
      have hrow := fun q => row5 (hJ.quiet q).row
      have hx1 : x < 1000 := by have := hxh.1; omega
      have hwx : IntKind.i64.wrap (x : Int) = x := IntWalk.i64_in _ (by omega)
      go_wp2_with (first | (go_at_call 41; refine Calls.mono (hat _) ?_; rintro e w2 ⟨rfl, rfl⟩) | (go_at_call 39; refine Calls.mono hrd2 ?_; rintro e w2 ⟨rfl, rfl⟩) | (go_at_call 34; refine Calls.mono hhome ?_; rintro e w2 ⟨rfl, q, rfl⟩; obtain ⟨w4, hrun, hM, hK4, hz4⟩ := hst q; obtain ⟨⟨q0, q1, q2, q3, q4⟩, y0, y1, y2, y3, y4⟩ := hrow q))
      rw [strM_put, restr_succ hxk hs, strM_none (restr_new hg.nd hxk)] at hM
      exact ⟨⟨k + 1, by simp, by omega, ⟨left, (hJ.quiet q).set hM hK4⟩, (hKp.trans ((kp_refl _ _).drewN q)).own hK4 (Nat.le_refl _)⟩, by simp [RowKit.intOf]; omega⟩
    · have g3 : decide ((k : Int) < (m : Int)) = false := by simp; omega
      obtain rfl : k = m := by omega
      have hra := restr_all hks hS
      rw [hlen] at hra
      rw [hra] at hJ
      by_cases hm0 : 0 < k
      · have g5 : decide ((0 : Int) < (k : Int)) = true := by simp; omega
        have g6 : decide (0 < k) = true := by simp; omega
        have hcall := bring_any ⟨left, hJ⟩ (fun e => (by cases e)) hS hks (hU hm0)
        go_wp2_with (go_at_call 43; refine Calls.mono hcall ?_; rintro e w3 ⟨c3, f3, off3, writes3, S3, m3, rfl, hJ5, hoc5, hK5, hway⟩; rcases hway with ⟨rfl, hR3, rfl, rfl, hw3⟩ | ⟨rfl, hoo, hU3⟩)
        all_goals
          have hKr : Kp (fun i => i = d ∨ i = ib) w' w3 := Kp.new (hKp.imp fun _ e => e.elim) hK5 fun i e => by
            rcases e with e | e | e
            · exact .inl (.inl e)
            · exact .inl (.inr e)
            · exact .inr (by omega)
          go_ret2
        · exact ⟨f3, off3, writes3, hKr, hoc5, .inl ⟨w'.heap.size + 1, w'.heap.size, Nat.le_succ _, Nat.le_refl _, rfl, hJ5, .inr ⟨hm0, hR3⟩⟩⟩
        · exact ⟨f3, off3, writes3, hKr, hoc5, .inr ⟨hm0, rfl, hJ5.dx, hoo, hU3⟩⟩
      · obtain rfl : k = 0 := by omega
        go_wp2
        go_ret2
        have hJ0 : JW p wr (w'.heap.size + 1) d w'.heap.size ib f false cut left writes false (fun _ => none) 0 := ⟨hJ.disk, hJ.row, by have := hJ.map; rw [this.empty] at this; exact this⟩
        exact ⟨f, false, writes, hKp.imp fun _ e => e.elim, fun e => (by cases e), .inl ⟨w'.heap.size + 1, w'.heap.size, Nat.le_succ _, Nat.le_refl _, rfl, ⟨left, hJ0⟩, .inl ⟨rfl, rfl, rfl⟩⟩⟩
end
end Go.Proofs.Ytkcclaljhedmjaa

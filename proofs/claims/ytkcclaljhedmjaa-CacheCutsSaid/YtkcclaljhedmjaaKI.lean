/- The cache alone; awake. No conditions. -/
import Derived.Test.YtkcclaljhedmjaaKH
import Derived.Test.YtkcclaljhedmjaaKC
namespace Go.Proofs.Ytkcclaljhedmjaa
section
open Go.RowKit Go.Maps Go.Lib
/-- the cache and its journal -/
structure CW (B cb j hb d ib mb size : Nat) (w : World) (v : Value) (ring : List Nat) (X : Nat → Hb) (f : Nat → List Nat) (writes : Int) (D : Nat → Option ByteArray) (hf : Nat → List Nat) : Prop where
  jx : JX p8 w j d mb ib f false false writes false (fun _ => none) 0
  rest : Rest p8 (headL []) f hf
  cat : CAt w cb j hb size v ring X
  cst : CSt ring X D (fun _ => 0) (fun l => strB (f l))
  sz : ∀ l s, D l = some s → s.size = 256
  ne : hb ≠ mb
  far : (B ≤ cb ∧ B ≤ j ∧ B ≤ hb) ∧ B ≤ d ∧ B ≤ ib ∧ B ≤ mb
section
variable {B cb j hb d ib mb size : Nat} {w w' : World} {v : Value} {ring : List Nat} {X : Nat → Hb} {f : Nat → List Nat} {writes : Int} {D : Nat → Option ByteArray} {hf : Nat → List Nat}
theorem CW.same (h : CW B cb j hb d ib mb size w v ring X f writes D hf) (hK : Kp (fun _ => False) w w') : CW B cb j hb d ib mb size w' v ring X f writes D hf :=
  ⟨h.jx.same hK, h.rest, h.cat.same hK, h.cst, h.sz, h.ne, h.far⟩
theorem CW.cache {v' : Value} {ring' : List Nat} {X' : Nat → Hb} {D' : Nat → Option ByteArray} (h : CW B cb j hb d ib mb size w v ring X f writes D hf) (hC : CAt w' cb j hb size v' ring' X') (hS : CSt ring' X' D' (fun _ => 0) (fun l => strB (f l))) (hT : Tch cb hb w w') (hsz : ∀ l s, D' l = some s → s.size = 256) : CW B cb j hb d ib mb size w' v' ring' X' f writes D' hf := by
  obtain ⟨left, hJ⟩ := h.jx
  exact ⟨⟨left, hT.jw h.cat hJ h.ne.symm⟩, h.rest, hC, hS, hsz, h.ne, h.far⟩
theorem CW.hom (h : CW B cb j hb d ib mb size w v ring X f writes D hf) : ∀ l ∈ ring, Home p8 l := fun l hl => by
  have := h.cat.home l hl
  unfold Home p8; simp; omega
/-- there is room while few are dirty -/
def FewD (D : Nat → Option ByteArray) (size : Nat) : Prop := ∀ xs : List Nat, xs.Nodup → (∀ x ∈ xs, (D x).isSome = true) → xs.length < size
theorem not_full {R : Nat → ByteArray} {k : Nat} (hS : CSt ring X D (fun _ => 0) R) (hnd : ring.Nodup) (hF : Full size ring X k) (hf : FewD D size) : False := by
  obtain ⟨h1, h2, h3⟩ := hF
  have := hf ring hnd fun x hx => by
    have hn := h3 x hx
    unfold Hb.need at hn
    rw [Bool.or_eq_true] at hn
    rcases hn with hn | hn
    · rw [hS.dirty x hx hn]; rfl
    · have := hS.pins x hx
      simp at hn
      omega
  omega
/-- what it may touch is young, and is no map but its own -/
def Yng (B : Nat) (hb mb : Nat) (w : World) (i : Nat) : Prop := B ≤ i ∧ (i = hb ∨ i = mb ∨ ∀ es c, w.heap[i]? ≠ some (.map es c))
theorem Yng.map {b m : Nat} {T : Int → Option Value} (hK : Kp (Yng B hb mb w) w w') (hM : MapAt w b T m) (n1 : b ≠ hb) (n2 : b ≠ mb) : MapAt w' b T m := hM.kp hK fun hi => by
  obtain ⟨es, clock, hbb, _⟩ := hM
  rcases hi.2 with e | e | e
  · exact n1 e
  · exact n2 e
  · exact e _ _ hbb
theorem Yng.far (hK : Kp (Yng B hb mb w) w w') : Kp (fun i => B ≤ i) w w' := hK.imp fun _ e => e.1
theorem CW.yng (h : CW B cb j hb d ib mb size w v ring X f writes D hf) (hT : Tch cb hb w w') : Kp (Yng B hb mb w) w w' := hT.imp fun i hi => by
  obtain ⟨⟨f1, f2, f3⟩, _⟩ := h.far
  rcases hi with rfl | rfl | ⟨h1, cs, e | e⟩
  · exact ⟨f1, .inr (.inr fun es c e => by rw [h.cat.row] at e; cases e)⟩
  · exact ⟨f3, .inl rfl⟩
  · exact ⟨by omega, .inr (.inr fun es c e2 => by rw [e] at e2; cases e2)⟩
  · exact ⟨by omega, .inr (.inr fun es c e2 => by rw [e] at e2; cases e2)⟩
def WriteC (B cb j hb d ib mb size : Nat) (f : Nat → List Nat) (writes : Int) (D : Nat → Option ByteArray) (hf : Nat → List Nat) (k : Nat) (s : ByteArray) (w : World) (e : Ending) (w' : World) : Prop :=
  e = .returned (.int .i64 0) ∧ Kp (Yng B hb mb w) w w' ∧ ∃ v ring X, k ∈ ring ∧ CW B cb j hb d ib mb size w' v ring X f writes (putD D k s) hf
theorem CW.write (h : CW B cb j hb d ib mb size w v ring X f writes D hf) {k : Nat} (hk : 60 ≤ k ∧ k < 200) (s : ByteArray) (hs : s.size = 256) (hfew : FewD D size) : Calls Try.prog 26 #[.pointer (some ⟨cb, 0, none⟩), .int .i64 (k : Int), .string s] w (WriteC B cb j hb d ib mb size f writes D hf k s w) := by
  obtain ⟨left, hJ⟩ := h.jx
  refine (cwrite_any h.cat h.cst hJ (readS_none f k).symm (home8_yes hk) hk s hs).mono ?_
  rintro e w' ⟨v', ring', X', D', hC, hS, hT, ⟨rfl, hkr, rfl⟩ | ⟨rfl, hF, rfl⟩⟩
  · refine ⟨rfl, h.yng hT, v', ring', X', hkr, h.cache hC hS hT fun l t hl => ?_⟩
    unfold putD at hl
    split at hl
    · cases hl; exact hs
    · exact h.sz l t hl
  · exact (not_full hS hC.nodup hF hfew).elim
def ReadC (B cb j hb d ib mb size : Nat) (f : Nat → List Nat) (writes : Int) (D : Nat → Option ByteArray) (hf : Nat → List Nat) (k : Nat) (w : World) (e : Ending) (w' : World) : Prop :=
  e = .returned (.tuple #[.string ((D k).getD (strB (f k))), .int .i64 0]) ∧ Kp (Yng B hb mb w) w w' ∧ ∃ v ring X, CW B cb j hb d ib mb size w' v ring X f writes D hf
theorem CW.read (h : CW B cb j hb d ib mb size w v ring X f writes D hf) {k : Nat} (hk : 60 ≤ k ∧ k < 200) (hfew : FewD D size) : Calls Try.prog 46 #[.pointer (some ⟨cb, 0, none⟩), .int .i64 (k : Int)] w (ReadC B cb j hb d ib mb size f writes D hf k w) := by
  obtain ⟨left, hJ⟩ := h.jx
  refine (cread_any h.cat h.cst hJ (readS_none f k).symm (home8_yes hk) hk).mono ?_
  rintro e w' ⟨v', ring', X', hC, hS, hT, ⟨rfl, hkr⟩ | ⟨rfl, hF⟩⟩
  · exact ⟨rfl, h.yng hT, v', ring', X', h.cache hC hS hT h.sz⟩
  · exact (not_full hS hC.nodup hF hfew).elim
theorem CW.flYng (h : CW B cb j hb d ib mb size w v ring X f writes D hf) (hK : Kp (FlTag ring X j d mb ib) w w') : Kp (Yng B hb mb w) w w' := hK.imp fun i hi => by
  obtain ⟨left, hJ⟩ := h.jx
  obtain ⟨⟨f1, f2, f3⟩, f4, f5, f6⟩ := h.far
  have h2 := hJ.row
  have h3 := hJ.disk.row
  have h4 := hJ.disk.img
  unfold JAt at h2
  rcases hi with ⟨l, hl, rfl⟩ | rfl | rfl | rfl | rfl
  · exact ⟨Nat.le_trans f1 (h.cat.young.2 l hl), .inr (.inr fun es c e => by rw [h.cat.held l hl] at e; cases e)⟩
  · exact ⟨f4, .inr (.inr fun es c e => by rw [h3] at e; cases e)⟩
  · exact ⟨f5, .inr (.inr fun es c e => by rw [h4] at e; cases e)⟩
  · exact ⟨f6, .inr (.inl rfl)⟩
  · exact ⟨f2, .inr (.inr fun es c e => by rw [h2] at e; cases e)⟩
def FlushC (B cb j hb d ib mb size : Nat) (v : Value) (ring : List Nat) (D : Nat → Option ByteArray) (hf : Nat → List Nat) (w : World) (e : Ending) (w' : World) : Prop :=
  e = .returned (.int .i64 0) ∧ Kp (Yng B hb mb w) w w' ∧ ∃ X f writes, CW B cb j hb d ib mb size w' v ring X f writes (fun _ => none) (over hf (stgN (dS D)))
theorem CW.flush (h : CW B cb j hb d ib mb size w v ring X f writes D hf) (hfew : FewD D 41) : Calls Try.prog 28 #[.pointer (some ⟨cb, 0, none⟩)] w (FlushC B cb j hb d ib mb size v ring D hf w) := by
  refine (flush_any h.cat h.cst h.jx h.ne.symm h.rest h.sz h.hom).mono ?_
  rintro e w' ⟨ds, hsd, hmem, ⟨h40, rfl, hK⟩ | ⟨h40, hK, ⟨f', writes', X', rfl, hC, hS, hJ, hR⟩ | ⟨hc, _⟩⟩⟩
  · have := hfew ds (hsd.imp fun h => Nat.ne_of_lt h) fun x hx => (hmem x).1 hx
    omega
  · refine ⟨rfl, h.flYng hK, X', f', writes', hJ, hR, hC, hS.congr fun l hl => ?_, (fun l s hl => by cases hl), h.ne, h.far⟩
    have e1 : f' l = over hf (stgN (dS D)) l := hR.2 l (h.hom l hl)
    have e0 : f l = hf l := h.rest.2 l (h.hom l hl)
    rw [e1]
    cases hd : D l with
    | some s => rw [over_some (by rw [dS_nat]; exact hd), strB_bytesOf]; rfl
    | none => rw [over_none (by rw [dS_nat]; exact hd), ← e0]; rfl
  · cases hc
end
end
section
open Go.RowKit Go.Maps Go.Lib
theorem few_none (n : Nat) (hn : 0 < n) : FewD (fun _ => none) n := fun xs _ h => by
  cases xs with
  | nil => exact hn
  | cons x xs => have := h x (by simp); cases this
theorem few_put {D : Nat → Option ByteArray} {n k : Nat} {s : ByteArray} (h : FewD D n) : FewD (putD D k s) (n + 1) := fun xs hnd hx => by
  have h1 := h (xs.erase k) (hnd.erase k) fun x hm => by
    have hxk : x ≠ k := fun e => by
      subst e
      exact (List.Nodup.not_mem_erase hnd) hm
    have := hx x (List.mem_of_mem_erase hm)
    unfold putD at this
    rw [if_neg hxk] at this
    exact this
  have := List.length_erase (a := k) (l := xs)
  split at this <;> omega
theorem FewD.le {D : Nat → Option ByteArray} {n m : Nat} (h : FewD D n) (hm : n ≤ m) : FewD D m := fun xs h1 h2 => Nat.lt_of_lt_of_le (h xs h1 h2) hm
theorem begun_cw {B size : Nat} {w w1 : World} {cb j hb d ib mb : Nat} {f : Nat → List Nat} {writes : Int} (hJ : JX p8 w1 j d mb ib f false false writes false (fun _ => none) 0) (hR : Rest p8 (headL []) f (fun _ => zeroL)) (hC : CAt w1 cb j hb size (.slice none 0 0) [] noX) (hne : hb ≠ mb) (hB : w.heap.size = B) (h1 : w.heap.size ≤ cb ∧ w.heap.size ≤ j ∧ w.heap.size ≤ hb) (h2 : w.heap.size ≤ d ∧ w.heap.size ≤ ib ∧ w.heap.size ≤ mb) : CW B cb j hb d ib mb size w1 (.slice none 0 0) [] noX f writes (fun _ => none) (fun _ => zeroL) := by
  subst hB
  exact ⟨hJ, hR, hC, ⟨by simp, by simp, by simp, by simp⟩, (fun l s h => by cases h), hne, h1, h2⟩
theorem dread8 {B cb j hb d ib mb size : Nat} {w : World} {v : Value} {ring : List Nat} {X : Nat → Hb} {f : Nat → List Nat} {writes : Int} {D0 D : Nat → Option ByteArray} {hf : Nat → List Nat} (h : CW B cb j hb d ib mb size w v ring X f writes D0 (over hf (stgN (dS D)))) {s : ByteArray} (hD : D 70 = some s) : Calls Try.prog 39 #[.pointer (some ⟨d, 0, none⟩), .int .i64 70] w fun e w' => e = .returned (.tuple #[.string s, .int .i64 0]) ∧ w' = w := by
  obtain ⟨left, hJ⟩ := h.jx
  have hrd := dread_any w d ib 200 f false false left writes 70 (by omega) hJ.disk
  have h70 : f 70 = bytesOf s := by
    rw [h.rest.2 70 (by unfold Home p8; simp), over_some (by rw [dS_nat]; exact hD)]
  unfold ReadPost at hrd
  rw [show f (70 : Int).toNat = _ from h70, strB_bytesOf] at hrd
  refine hrd.mono ?_
  rintro e w' ⟨rfl, rfl⟩
  exact ⟨rfl, rfl⟩
theorem read8 {B cb j hb d ib mb size : Nat} {w : World} {v : Value} {ring : List Nat} {X : Nat → Hb} {f : Nat → List Nat} {writes : Int} {D : Nat → Option ByteArray} {hf : Nat → List Nat} (h : CW B cb j hb d ib mb size w v ring X f writes D hf) {s : ByteArray} (hk : (60 : Nat) ≤ 70 ∧ (70 : Nat) < 200) (hD : D 70 = some s) (hfew : FewD D size) : Calls Try.prog 46 #[.pointer (some ⟨cb, 0, none⟩), .int .i64 70] w fun e w' => e = .returned (.tuple #[.string s, .int .i64 0]) ∧ Kp (Yng B hb mb w) w w' ∧ ∃ v ring X, CW B cb j hb d ib mb size w' v ring X f writes D hf := by
  have hrd : Calls Try.prog 46 #[.pointer (some ⟨cb, 0, none⟩), .int .i64 70] w _ := h.read hk hfew
  refine hrd.mono ?_
  rintro e w' ⟨rfl, h2⟩
  rw [hD]
  exact ⟨rfl, h2⟩
theorem unpin8 {B cb j hb d ib mb size : Nat} {w : World} {v : Value} {ring : List Nat} {X : Nat → Hb} {f : Nat → List Nat} {writes : Int} {D : Nat → Option ByteArray} {hf : Nat → List Nat} (h : CW B cb j hb d ib mb size w v ring X f writes D hf) (hw : (Lit.int .i64 70).wf = true) : Calls Try.prog 49 #[.pointer (some ⟨cb, 0, none⟩), .int .i64 70] w fun e w' => e = .returned (.int .i64 802) ∧ Kp (Yng B hb mb w) w w' := by
  by_cases hr : 70 ∈ ring
  · have hup : Calls Try.prog 49 #[.pointer (some ⟨cb, 0, none⟩), .int .i64 70] w _ := cunpin_any h.cat h.cst hr (by omega)
    refine hup.mono ?_
    rintro e w' ⟨X', P', hC, hS, hT, ⟨rfl, h0, rfl⟩ | ⟨rfl, h0, rfl⟩⟩
    · exact absurd h0 (Nat.lt_irrefl 0)
    · exact ⟨rfl, h.yng hT⟩
  · refine (cunpin_no h.cat (fun e => hr (by simpa using e.2)) hw).mono ?_
    rintro e w' ⟨rfl, rfl⟩
    exact ⟨rfl, kp_refl _ _⟩
set_option maxHeartbeats 4000000 in
set_option maxRecDepth 100000 in
theorem awake8_any (w : World) : Calls Try.prog 25 #[] w fun e w' => e = .returned (.bool true) ∧ Kp (fun _ => False) w w' := by
  obtain ⟨bs, hbs, hblk⟩ : ∃ bs, bs.size = 256 ∧ ∀ w', Calls Try.prog 27 #[.int .i64 1] w' (StrPost bs w') := ⟨_, by rw [strB_size, blkL_len], fun w' => blk5_any 1 w'⟩
  have hbg : Calls Try.prog 21 #[.int .i64 8] w (BegunPost 8 w) := begun_any 8 ⟨by omega, by omega⟩ w
  have hf0 := few_none 1 (by omega)
  have hf1 := few_put (k := 70) (s := bs) hf0
  have h70 : (60 : Nat) ≤ 70 ∧ (70 : Nat) < 200 := by omega
  have hD1 : (putD (fun _ => none) 70 bs 70) = some bs := by simp [putD]
  have w70 : (Lit.int .i64 70).wf = true := by decide
  replace hD1 := Lib.hid hD1
  replace h70 := Lib.hid h70
  replace w70 := Lib.hid w70
  go_enter Try.func25, Try.ntmps25
  go_wp2_with (first
    | (go_at_call 21; refine Calls.mono hbg ?_; clear hbg; rintro e w1 ⟨cb, j, hb, d, ib, mb, f, writes, rfl, hJ, hR, hC, hK1, h1, h2, hne⟩; have hW := begun_cw hJ hR hC hne rfl h1 h2; have hb1 := hblk w1)
    | (go_at_call 27; refine Calls.mono hb1 ?_; clear hb1; rintro e w2 ⟨rfl, hK2⟩; have hW2 := hW.same hK2; have hwr : Calls Try.prog 26 #[.pointer (some ⟨cb, 0, none⟩), .int .i64 70, .string bs] w2 _ := hW2.write h70.out bs hbs (hf0.le (by omega)))
    | (go_at_call 26; refine Calls.mono hwr ?_; clear hwr; rintro e w3 ⟨rfl, hK3, v3, ring3, X3, hk3, hW3⟩; have hrd := read8 hW3 h70.out hD1.out (hf1.le (by omega)))
    | (go_at_call 46; refine Calls.mono hrd ?_; clear hrd; rintro e w4 ⟨rfl, hK4, v4, ring4, X4, hW4⟩; have hfl := hW4.flush (hf1.le (by omega)))
    | (go_at_call 28; refine Calls.mono hfl ?_; clear hfl; rintro e w5 ⟨rfl, hK5, X5, f5, writes5, hW5⟩; have hdr := dread8 hW5 hD1.out)
    | (go_at_call 39; refine Calls.mono hdr ?_; clear hdr; rintro e w6 ⟨rfl, rfl⟩; have hcn := cnew_nil w6)
    | (go_at_call 44; refine Calls.mono hcn ?_; clear hcn; rintro e w7 ⟨rfl, rfl⟩; have hup := unpin8 hW5 w70.out)
    | (go_at_call 49; refine Calls.mono hup ?_; clear hup; rintro e w8 ⟨rfl, hK8⟩; have hKa : Kp (fun _ => False) w w8 := Kp.new (hK1.trans hK2) ((((Yng.far hK3).trans (Yng.far hK4)).trans (Yng.far hK5)).trans (Yng.far hK8)) fun i e => .inr e)
    | (go_at_call 8; refine Calls.mono (num_any _ _) ?_; rintro e w9 ⟨rfl, rfl⟩)
    | (go_at_call 27; refine Calls.mono (hblk _) ?_; rintro e w9 ⟨rfl, hK9⟩; replace hKa := hKa.trans hK9))
  go_ret
  exact ⟨rfl, hKa⟩
end
end Go.Proofs.Ytkcclaljhedmjaa

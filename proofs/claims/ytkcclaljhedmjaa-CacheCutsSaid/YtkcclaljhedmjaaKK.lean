/- CacheCuts: a cut, the Flush in it, the journal opened; the law. No conditions. -/
import Derived.Test.YtkcclaljhedmjaaKI
import Derived.Laws.Bits128
namespace Go.Proofs.Ytkcclaljhedmjaa
section
open Go.RowKit Go.Maps Go.Lib
section
variable {B cb j hb d ib mb size : Nat} {w w' : World} {v : Value} {ring : List Nat} {X : Nat → Hb} {f : Nat → List Nat} {writes : Int} {D : Nat → Option ByteArray} {hf : Nat → List Nat} {m : Nat} {ks : List Nat}
theorem DX.yng {p : Pl} {off cut : Bool} (h : DX p w d ib f off cut writes) (hK : Kp (fun i => i = d ∨ i = ib) w w') (h1 : B ≤ d) (h2 : B ≤ ib) : Kp (Yng B hb mb w) w w' := hK.imp fun i hi => by
  obtain ⟨left, hD⟩ := h
  rcases hi with rfl | rfl
  · exact ⟨h1, .inr (.inr fun es c e => by rw [hD.row] at e; cases e)⟩
  · exact ⟨h2, .inr (.inr fun es c e => by rw [hD.img] at e; cases e)⟩
/-- a map of the law is turned -/
theorem CW.mapK (h : CW B cb j hb d ib mb size w v ring X f writes D hf) {b m : Nat} {T : Int → Option Value} (hM : MapAt w b T m) (n1 : b ≠ hb) (n2 : b ≠ mb) (hK : Kp (fun i => i = b) w w') : CW B cb j hb d ib mb size w' v ring X f writes D hf := by
  obtain ⟨left, hJ⟩ := h.jx
  have h2 := hJ.row
  have h3 := hJ.disk.row
  have h4 := hJ.disk.img
  obtain ⟨es, clock, hbb, _⟩ := hM
  unfold JAt at h2
  refine ⟨JX.kp ⟨left, hJ⟩ hK ?_ ?_ (fun e => n2 e.symm) ?_, h.rest, h.cat.kp hK ?_ (fun e => n1 e.symm) (fun b2 hb2 e => ?_) (fun k hk e => ?_), h.cst, h.sz, h.ne, h.far⟩
  · rintro rfl; rw [h2] at hbb; cases hbb
  · rintro rfl; rw [h3] at hbb; cases hbb
  · rintro rfl; rw [h4] at hbb; cases hbb
  · rintro rfl; rw [h.cat.row] at hbb; cases hbb
  · obtain ⟨cs, hcs⟩ := ring_tag h.cat.rng hb2
    rw [e, hbb] at hcs; cases hcs
  · have := h.cat.held k hk
    rw [e, hbb] at this; cases this
/-- the power is to go off -/
def CutP (B cb j hb d ib mb size : Nat) (v : Value) (ring : List Nat) (X : Nat → Hb) (f : Nat → List Nat) (writes : Int) (n : Int) (w : World) (e : Ending) (w' : World) : Prop :=
  e = .returned (.int .i64 0) ∧ Kp (Yng B hb mb w) w w' ∧ JX p8 w' j d mb ib f (n == 0) true writes false (fun _ => none) 0 ∧ CAt w' cb j hb size v ring X
theorem CW.cut (h : CW B cb j hb d ib mb size w v ring X f writes D hf) (n : Int) (hn : 0 ≤ n) : Calls Try.prog 16 #[.pointer (some ⟨d, 0, none⟩), .int .i64 n] w (CutP B cb j hb d ib mb size v ring X f writes n w) := by
  have hdx := h.jx.dx
  obtain ⟨left, hJ⟩ := h.jx
  obtain ⟨n1, n2, n3, n4, n5, n6⟩ := hJ.ne
  refine (hdx.cuts n hn).mono ?_
  rintro e w' ⟨rfl, ⟨left', hD'⟩, hK, hz⟩
  refine ⟨rfl, hdx.yng (hK.imp fun _ e => .inl e) h.far.2.1 h.far.2.2.1, ⟨left', hD', (hK.block j (blk_lt hJ.row) n1).trans hJ.row, hJ.map.kp hK n4.symm⟩, h.cat.jkp hJ h.ne.symm (hK.imp fun _ e => .inl e)⟩
/-- behind the Flush in which the power may go off -/
def FlCut (B hb d ib mb : Nat) (D : Nat → Option ByteArray) (hf : Nat → List Nat) (ks : List Nat) (w : World) (e : Ending) (w' : World) : Prop :=
  ∃ c f' off' writes', e = .returned (.int .i64 c) ∧ Kp (Yng B hb mb w) w w' ∧ DX p8 w' d ib f' off' true writes' ∧ Cutted p8 headL f' hf (stgN (dS D)) ks
theorem CW.flushCut {w0 : World} {off : Bool} (h : CW B cb j hb d ib mb size w0 v ring X f writes D hf) (hJ : JX p8 w j d mb ib f off true writes false (fun _ => none) 0) (hC : CAt w cb j hb size v ring X) (hks : KsOf (dS D) m ks) (hm : m ≤ 40) : Calls Try.prog 28 #[.pointer (some ⟨cb, 0, none⟩)] w (FlCut B hb d ib mb D hf ks w) := by
  obtain ⟨⟨f1, f2, f3⟩, f4, f5, f6⟩ := h.far
  cases off
  · refine (flush_any hC h.cst hJ h.ne.symm h.rest h.sz h.hom).mono ?_
    rintro e w' ⟨ds, hsd, hmem, hway⟩
    obtain rfl : ds = ks := sorted_one hsd hks.sorted fun k => by rw [hmem, hks.mem, dS_nat]
    rcases hway with ⟨h40, rfl, hK⟩ | ⟨h40, hK, hway⟩
    · have := hks.len
      omega
    · have hY : Kp (Yng B hb mb w) w w' := hK.imp fun i hi => by
        obtain ⟨left, hJ0⟩ := hJ
        have h2 := hJ0.row
        have h3 := hJ0.disk.row
        have h4 := hJ0.disk.img
        unfold JAt at h2
        rcases hi with ⟨l, hl, rfl⟩ | rfl | rfl | rfl | rfl
        · exact ⟨Nat.le_trans f1 (hC.young.2 l hl), .inr (.inr fun es c e => by rw [hC.held l hl] at e; cases e)⟩
        · exact ⟨f4, .inr (.inr fun es c e => by rw [h3] at e; cases e)⟩
        · exact ⟨f5, .inr (.inr fun es c e => by rw [h4] at e; cases e)⟩
        · exact ⟨f6, .inr (.inl rfl)⟩
        · exact ⟨f2, .inr (.inr fun es c e => by rw [h2] at e; cases e)⟩
      rcases hway with ⟨f', writes', X', rfl, _, _, hJ', hR⟩ | ⟨_, c, f', writes', rfl, hD', hc⟩
      · exact ⟨0, f', false, writes', rfl, hY, hJ'.dx, .inr (.inr hR)⟩
      · exact ⟨c, f', true, writes', rfl, hY, hD', hc⟩
  · obtain ⟨left, hJ0⟩ := hJ
    refine (flush_off hC hJ0).mono ?_
    rintro e w' ⟨c, rfl, hK⟩
    exact ⟨c, f, true, writes, rfl, hK.imp fun _ e => e.elim, (show DX p8 w d ib f true true writes from ⟨left, hJ0.disk⟩).same hK, .inl h.rest⟩
end
/-- a place that the law writes -/
def atN (x : Int) : Nat := (60 + (IntKind.u64.wrap x) % 140).toNat
theorem at8 (x : Int) : wrap64 (60 + wrap64 ((IntKind.u64.wrap x).tmod 140)) = (atN x : Int) ∧ 60 ≤ atN x ∧ atN x < 200 := by
  have h1 : 0 ≤ IntKind.u64.wrap x := by
    rw [IntKind.wrap_u64]
    omega
  have h2 : (IntKind.u64.wrap x).tmod 140 = IntKind.u64.wrap x % 140 := Int.tmod_eq_emod_of_nonneg h1
  rw [h2]
  unfold atN
  generalize IntKind.u64.wrap x = y at *
  unfold wrap64
  omega
/-- the blocks of the law -/
def b1S : ByteArray := strB (blkL 5 1)
def bnS (i : Nat) : ByteArray := strB (blkL 5 ((100 : Int) + (i : Int)))
theorem b1_size : b1S.size = 256 := by unfold b1S; rw [strB_size, blkL_len]
theorem bn_size (i : Nat) : (bnS i).size = 256 := by unfold bnS; rw [strB_size, blkL_len]
theorem bn_ne {i : Nat} (hi : i < 30) : b1S ≠ bnS i := fun e => by
  have h := congrArg bytesOf e
  unfold b1S bnS at h
  rw [bytesOf_strB _ (blkL_byte 5 _), bytesOf_strB _ (blkL_byte 5 _)] at h
  have h0 := congrArg (fun l => l[0]?) h
  simp [blkL, blkB] at h0
  omega
end
section
open Go.RowKit Go.Maps Go.Lib
/-- the numbers as they came in -/
def Ints8 (w : World) (a : Option Addr) (n c : Nat) : Prop := n ≤ c ∧ ∀ i, i < n → ∃ b o, a = some ⟨b, o, none⟩ ∧ b < w.heap.size ∧ ∃ x : Int, (Lit.int .i64 x).wf = true ∧ w.cell? ⟨b, o + i, none⟩ = some (.int .i64 x)
def Seen (w : World) (a : Option Addr) (i : Nat) (D : Nat → Option ByteArray) : Prop := ∀ i', i' < i → ∀ b o x, a = some ⟨b, o, none⟩ → w.cell? ⟨b, o + i', none⟩ = some (.int .i64 x) → (D (atN x)).isSome = true
/-- the first round of writes -/
def L1 (w0 : World) (a : Option Addr) (B cb j hb d ib mb ob fb : Nat) (f : Nat → List Nat) (writes : Int) (i : Nat) (wr : World) : Prop :=
  i ≤ 30 ∧ Kp (fun i => B ≤ i) w0 wr ∧ ∃ v ring X D om, CW B cb j hb d ib mb 60 wr v ring X f writes D (fun _ => zeroL) ∧ MapAt wr ob (strM (dS D)) om ∧ MapAt wr fb (strM (dS fun _ => none)) 0 ∧ om ≤ i ∧ (∀ k s, D k = some s → s = b1S ∧ 60 ≤ k ∧ k < 200) ∧ FewD D (i + 1) ∧ Seen w0 a i D
/-- the second -/
def L2 (w0 : World) (B cb j hb d ib mb ob fb : Nat) (f : Nat → List Nat) (writes : Int) (D1 : Nat → Option ByteArray) (om : Nat) (i : Nat) (wr : World) : Prop :=
  i ≤ 30 ∧ Kp (fun i => B ≤ i) w0 wr ∧ ∃ v ring X D fm, CW B cb j hb d ib mb 60 wr v ring X f writes D (over (fun _ => zeroL) (stgN (dS D1))) ∧ MapAt wr ob (strM (dS D1)) om ∧ MapAt wr fb (strM (dS D)) fm ∧ fm ≤ i ∧ (∀ k s, D k = some s → (∃ r, r < 30 ∧ s = bnS r) ∧ D1 k = some b1S ∧ 60 ≤ k ∧ k < 200) ∧ FewD D (i + 1)
def End1 (w0 : World) (a : Option Addr) (n B cb j hb d ib mb ob fb : Nat) (f : Nat → List Nat) (writes : Int) (wr : World) : Prop := ∃ i, (n ≤ i ∨ 30 ≤ i) ∧ L1 w0 a B cb j hb d ib mb ob fb f writes i wr
def End2 (w0 : World) (B cb j hb d ib mb ob fb : Nat) (f : Nat → List Nat) (writes : Int) (D1 : Nat → Option ByteArray) (om : Nat) (wr : World) : Prop := ∃ i, L2 w0 B cb j hb d ib mb ob fb f writes D1 om i wr
def L3 (fb r : Nat) (f : Nat → List Nat) (hf : Nat → List Nat) (D : Nat → Option ByteArray) (fm : Nat) (w : World) (c : Nat) (wr : World) : Prop :=
  ∃ left cnt, ∃ ys : List Nat, RangeAt wr fb r (strM (dS D)) left cnt ∧ Kp (fun _ => False) w wr ∧ (ys.Nodup ∧ ys.length ≤ fm ∧ ∀ k : Nat, k ∈ ys ↔ ((D k).isSome = true ∧ left (k : Int) = false)) ∧ ((Rest p8 (headL []) f hf ∧ c = 0) ∨ (Rest p8 (headL []) f (over hf (stgN (dS D))) ∧ c = ys.length))
theorem dS_none : strM (dS fun _ => none) = noneM := by
  funext k
  unfold strM dS noneM
  split <;> rfl
theorem putD_same (D : Nat → Option ByteArray) (k : Nat) (s : ByteArray) : putD D k s k = some s := by simp [putD]
theorem putD_some {D : Nat → Option ByteArray} {k l : Nat} {s t : ByteArray} (h : putD D k s l = some t) : (l = k ∧ t = s) ∨ (l ≠ k ∧ D l = some t) := by
  unfold putD at h
  split at h
  · rename_i e
    exact .inl ⟨e, (Option.some.inj h).symm⟩
  · rename_i e
    exact .inr ⟨e, h⟩
set_option maxHeartbeats 4000000 in
set_option maxRecDepth 100000 in
theorem cuts_any (w : World) (a : Option Addr) (n cap : Nat) (cut : Int) (hst : Ints8 w a n cap) : Calls Try.prog 5 #[.slice a n cap, .int .i64 cut] w fun e w' => e = .returned (.bool true) ∧ Kp (fun _ => False) w w' := by
  have haw := awake8_any w
  have hmm := fun w => run_makeMap (P := Try.prog) 31 w
  have hblk1 : ∀ w', Calls Try.prog 27 #[.int .i64 1] w' (StrPost b1S w') := fun w' => blk5_any 1 w'
  have hb1s := b1_size
  go_enter Try.func5, Try.ntmps5
  go_upto_block 0 with (first
    | (go_at_call 25; refine Calls.mono haw ?_; clear haw; rintro e w0 ⟨rfl, hK0⟩; have hbg : Calls Try.prog 21 #[.int .i64 60] w0 (BegunPost 60 w0) := begun_any 60 ⟨by omega, by omega⟩ w0)
    | (go_at_call 21; refine Calls.mono hbg ?_; clear hbg; rintro e w1 ⟨cb, j, hb, d, ib, mb, f, writes, rfl, hJ, hR, hC, hK1, h1, h2, hne⟩; have hW := begun_cw hJ hR hC hne rfl h1 h2))
  have hKa := (kp_alloc (fun _ => False) w1 (.map #[] 0)).alloc (.map #[] 0)
  have hW2 := hW.same hKa
  have hmo := (mapAt_made w1).kp (kp_alloc (fun _ => False) (w1.alloc (.map #[] 0)) (.map #[] 0)) fun e => e
  have hmf := mapAt_made (w1.alloc (.map #[] 0))
  have hfb : (w1.alloc (.map #[] 0)).heap.size = w1.heap.size + 1 := by simp
  rw [hfb] at hmf
  have hs1 : w.heap.size ≤ w0.heap.size := hK0.size
  have hs2 : w0.heap.size ≤ w1.heap.size := hK1.size
  have hne1 : w1.heap.size ≠ hb ∧ w1.heap.size ≠ mb ∧ w1.heap.size + 1 ≠ hb ∧ w1.heap.size + 1 ≠ mb ∧ w1.heap.size + 1 ≠ w1.heap.size := by
    obtain ⟨l, hJ0⟩ := hJ
    have e1 := hJ0.map.lt
    have e2 := hC.map.lt
    omega
  have hKw : Kp (fun i => w0.heap.size ≤ i) w ((w1.alloc (.map #[] 0)).alloc (.map #[] 0)) := ((hK0.trans hK1).trans hKa).imp fun _ e => e.elim
  have hrel0 : L1 w a w0.heap.size cb j hb d ib mb w1.heap.size (w1.heap.size + 1) f writes 0 ((w1.alloc (.map #[] 0)).alloc (.map #[] 0)) := ⟨by omega, hKw, _, _, _, _, 0, hW2, by rw [dS_none]; exact hmo, by rw [dS_none]; exact hmf, Nat.le_refl _, (fun k s h => by cases h), few_none _ (by omega), fun i' hi' => by omega⟩
  clear hW hW2 hmo hmf hKa hKw hJ hR hC hK1 h1 h2
  generalize (w1.alloc (.map #[] 0)).alloc (.map #[] 0) = w2 at *
  generalize hob : w1.heap.size = ob at *
  have hobB : w0.heap.size ≤ ob := hs2
  clear hob
  go_cut [10, 11] from 31 to 55 (fun _ _ wc => End1 w a n w0.heap.size cb j hb d ib mb ob (ob + 1) f writes wc)
  case first =>
    go_wp2
    go_loopw [10] (fun i wr => ∃ r : Nat, i = .int .i64 r ∧ L1 w a w0.heap.size cb j hb d ib mb ob (ob + 1) f writes r wr) (fun i _ => 30 - (RowKit.intOf i).toNat)
    case atStart => exact ⟨0, rfl, hrel0⟩
    case round =>
      clear hrel0
      obtain ⟨i, rfl, hi, hKp, v, ring, X, D, om, hW, hMo, hMf, hom, hD, hFD, hSn⟩ := hrel
      by_cases hlt : i < n ∧ i < 30
      · obtain ⟨hin, hi2⟩ := hlt
        have g1 : decide ((i : Int) < (n : Int)) = true := by simp; omega
        have g2 : decide ((i : Int) < 30) = true := by simp; omega
        obtain ⟨b, o, hab, hbl, x, wx, c0⟩ := hst.2 i hin
        subst hab
        have c1 : wr.cell? ⟨b, o + i, none⟩ = some (.int .i64 x) := (World.cell?_of_block (hKp.block b hbl (by omega))).trans c0
        obtain ⟨ea, ha60, ha200⟩ := at8 x
        have hb1 := hblk1 wr
        go_wp2_with (fail)
        generalize wrap64 (60 + wrap64 ((IntKind.u64.wrap x).tmod 140)) = z at *
        subst ea
        generalize hka : atN x = k at *
        have hwk : (Lit.int .i64 (k : Int)).wf = true := wf_i64 (by omega)
        go_at_call 27
        refine Calls.mono hb1 ?_
        clear hb1
        rintro e w3 ⟨rfl, hK3⟩
        have hwr := (hW.same hK3).write ⟨ha60, ha200⟩ b1S hb1s (hFD.le (by omega))
        go_wp2_with (first
          | (go_at_call 26; refine Calls.mono hwr ?_; clear hwr; rintro e w4 ⟨rfl, hK4, v4, ring4, X4, hk4, hW4⟩; have hMo4 := Yng.map hK4 (hMo.kp hK3 fun e => e) hne1.1 hne1.2.1; have hMf4 := Yng.map hK4 (hMf.kp hK3 fun e => e) hne1.2.2.1 hne1.2.2.2.1; have hb4 := hblk1 w4)
          | (go_at_call 27; refine Calls.mono hb4 ?_; clear hb4; rintro e w5 ⟨rfl, hK5⟩; obtain ⟨w6, hst6, hM6, hK6, hz6⟩ := (hMo4.kp hK5 (fun e => e)).store (by omega) Try.underlying31 hwk (.string b1S)))
        rw [strM_put, dS_put] at hM6
        refine ⟨⟨i + 1, by simp, by omega, ((hKp.trans (hK3.imp fun _ e => e.elim)).trans ((Yng.far hK4).trans (hK5.imp fun _ e => e.elim))).trans (hK6.imp fun i e => by omega), v4, ring4, X4, _, _, (hW4.same hK5).mapK (hMo4.kp hK5 fun e => e) hne1.1 hne1.2.1 hK6, hM6, (hMf4.kp hK5 fun e => e).kp hK6 hne1.2.2.2.2, by split <;> omega, fun l s hl => ?_, few_put hFD, fun i' hi' b2 o2 x2 e2 hc2 => ?_⟩, by simp [RowKit.intOf]; omega⟩
        · rcases putD_some hl with ⟨rfl, rfl⟩ | ⟨_, hl⟩
          · exact ⟨rfl, ha60, ha200⟩
          · exact hD l s hl
        · by_cases e : i' = i
          · subst e
            cases e2
            rw [c0] at hc2
            cases hc2
            rw [hka, putD_same]; rfl
          · exact putD_sub (hSn i' (by omega) b2 o2 x2 e2 hc2)
      · have g1 : ¬ i < n ∨ (i < n ∧ decide ((i : Int) < 30) = false) := by simp; omega
        have hend : End1 w a n w0.heap.size cb j hb d ib mb ob (ob + 1) f writes wr := ⟨i, by omega, hi, hKp, v, ring, X, D, om, hW, hMo, hMf, hom, hD, hFD, hSn⟩
        clear hlt
        rcases g1 with g1 | ⟨g1, g2⟩
        all_goals
          go_wp2
          go_meet
          exact hend
  case rest =>
    clear hrel0
    obtain ⟨i1, hi1, hi30, hKp, v, ring, X, D1, om, hW, hMo, hMf, hom, hD1, hFD, hSn⟩ := hcut
    have hfl := hW.flush (hFD.le (by omega))
    go_upto_block 2 with (go_at_call 28; refine Calls.mono hfl ?_; clear hfl; rintro e w3 ⟨rfl, hK3, X3, f3, writes3, hW3⟩)
    have hMo3 := Yng.map hK3 hMo hne1.1 hne1.2.1
    have hMf3 := Yng.map hK3 hMf hne1.2.2.1 hne1.2.2.2.1
    have hrel0 : L2 w w0.heap.size cb j hb d ib mb ob (ob + 1) f3 writes3 D1 om 0 w3 := ⟨by omega, hKp.trans (Yng.far hK3), v, ring, X3, _, 0, hW3, hMo3, hMf3, Nat.le_refl _, (fun k s h => by cases h), few_none _ (by omega)⟩
    clear hW hW3 hMo3 hMf3 hMo hMf hK3 hKp
    go_cut [13, 14] from 58 to 86 (fun _ _ wc => End2 w w0.heap.size cb j hb d ib mb ob (ob + 1) f3 writes3 D1 om wc)
    case first =>
      go_wp2
      go_loopw [13] (fun i wr => ∃ r : Nat, i = .int .i64 r ∧ L2 w w0.heap.size cb j hb d ib mb ob (ob + 1) f3 writes3 D1 om r wr) (fun i _ => 30 - (RowKit.intOf i).toNat)
      case atStart => exact ⟨0, rfl, hrel0⟩
      case round =>
        clear hrel0
        obtain ⟨i, rfl, hi, hKp, v, ring, X, D, fm, hW, hMo, hMf, hfm, hD, hFD2⟩ := hrel
        by_cases hlt : i < n ∧ i < 30
        · obtain ⟨hin, hi2⟩ := hlt
          have g1 : decide ((i : Int) < (n : Int)) = true := by simp; omega
          have g2 : decide ((i : Int) < 30) = true := by simp; omega
          obtain ⟨b, o, hab, hbl, x, wx, c0⟩ := hst.2 i hin
          have hsn := hSn i (by omega) b o x hab c0
          subst hab
          have c1 : wr.cell? ⟨b, o + i, none⟩ = some (.int .i64 x) := (World.cell?_of_block (hKp.block b hbl (by omega))).trans c0
          obtain ⟨ea, ha60, ha200⟩ := at8 x
          have hbn : ∀ w', Calls Try.prog 27 #[.int .i64 ((100 : Int) + (i : Int))] w' (StrPost (bnS i) w') := fun w' => blk5_any _ w'
          have hbns := bn_size i
          have hb1 := hbn wr
          have e100 : IntKind.i64.wrap ((100 : Int) + (i : Int)) = (100 : Int) + (i : Int) := IntWalk.i64_in _ (by omega)
          go_wp2_with (fail)
          generalize wrap64 (60 + wrap64 ((IntKind.u64.wrap x).tmod 140)) = z at *
          subst ea
          generalize hka : atN x = k at *
          have hwk : (Lit.int .i64 (k : Int)).wf = true := wf_i64 (by omega)
          have hD1k : D1 k = some b1S := by
            obtain ⟨s1, hs1⟩ := Option.isSome_iff_exists.1 hsn
            rw [hs1, (hD1 k s1 hs1).1]
          go_at_call 27
          refine Calls.mono hb1 ?_
          clear hb1
          rintro e w4 ⟨rfl, hK4⟩
          have hwr := (hW.same hK4).write ⟨ha60, ha200⟩ (bnS i) hbns (hFD2.le (by omega))
          go_wp2_with (first
            | (go_at_call 26; refine Calls.mono hwr ?_; clear hwr; rintro e w5 ⟨rfl, hK5, v5, ring5, X5, hk5, hW5⟩; have hMo5 := Yng.map hK5 (hMo.kp hK4 fun e => e) hne1.1 hne1.2.1; have hMf5 := Yng.map hK5 (hMf.kp hK4 fun e => e) hne1.2.2.1 hne1.2.2.2.1; have hb4 := hbn w5)
            | (go_at_call 27; refine Calls.mono hb4 ?_; clear hb4; rintro e w6 ⟨rfl, hK6⟩; obtain ⟨w7, hst7, hM7, hK7, hz7⟩ := (hMf5.kp hK6 (fun e => e)).store (by omega) Try.underlying31 hwk (.string (bnS i))))
          rw [strM_put, dS_put] at hM7
          refine ⟨⟨i + 1, by simp, by omega, ((hKp.trans (hK4.imp fun _ e => e.elim)).trans ((Yng.far hK5).trans (hK6.imp fun _ e => e.elim))).trans (hK7.imp fun i e => by omega), v5, ring5, X5, _, _, (hW5.same hK6).mapK (hMf5.kp hK6 fun e => e) hne1.2.2.1 hne1.2.2.2.1 hK7, (hMo5.kp hK6 fun e => e).kp hK7 (fun e => hne1.2.2.2.2 e.symm), hM7, by split <;> omega, fun l s hl => ?_, few_put hFD2⟩, by simp [RowKit.intOf]; omega⟩
          rcases putD_some hl with ⟨rfl, rfl⟩ | ⟨_, hl⟩
          · exact ⟨⟨i, hi2, rfl⟩, hD1k, ha60, ha200⟩
          · exact hD l s hl
        · have g1 : ¬ i < n ∨ (i < n ∧ decide ((i : Int) < 30) = false) := by simp; omega
          have hend : End2 w w0.heap.size cb j hb d ib mb ob (ob + 1) f3 writes3 D1 om wr := ⟨i, hi, hKp, v, ring, X, D, fm, hW, hMo, hMf, hfm, hD, hFD2⟩
          clear hlt
          rcases g1 with g1 | ⟨g1, g2⟩
          all_goals
            go_wp2
            go_meet
            exact hend
    case rest =>
      clear hrel0
      obtain ⟨i2, hi2, hKp, v, ring, X, D, fm, hW, hMo, hMf, hfm, hD, hFD2⟩ := hcut
      have hhome : ∀ l s, D l = some s → Home p8 l := fun l s hl => by
        have := (hD l s hl).2.2
        unfold Home p8; simp; omega
      have hstg : Stg p8 (dS D) fm := ⟨fun k s hk => by
        obtain ⟨n, rfl, hn⟩ := dS_home hk
        exact ⟨⟨n, rfl, hhome n s hn⟩, hW.sz n s hn⟩, by omega⟩
      obtain ⟨ks, hks⟩ := ks_exists hMf hstg
      obtain ⟨zz, hzz, h0z⟩ : ∃ zz, bits .and .i64 cut 127 = zz ∧ 0 ≤ zz := ⟨_, rfl, by rw [i64_and127]; omega⟩
      have hcu := hW.cut zz h0z
      have hB1 := hW.far.2.1
      have hB2 := hW.far.2.2.1
      go_wp2_with (first
        | (go_at_call 16; refine Calls.mono hcu ?_; clear hcu; rintro e w4 ⟨rfl, hK4, hJ4, hC4⟩; have hfc := hW.flushCut hJ4 hC4 hks (by omega))
        | (go_at_call 28; refine Calls.mono hfc ?_; clear hfc; rintro e w5 ⟨c5, f5, off5, writes5, rfl, hK5, hD5, hX5⟩; have hon := hD5.on)
        | (go_at_call 17; refine Calls.mono hon ?_; clear hon; rintro e w6 ⟨rfl, hD6, hK6, hz6⟩; have hop : Calls Try.prog 18 #[.pointer (some ⟨d, 0, none⟩), .int .i64 0, .int .i64 60] w6 _ := hD6.openg hstg hks hX5)
        | (go_at_call 18; refine Calls.mono hop ?_; clear hop; rintro e w7 ⟨f7, writes7, j7, mb7, hj7, hmb7, rfl, hJ7, hR7, hK7⟩; have hY6 : Kp (Yng w0.heap.size hb mb w5) w5 w6 := hD5.yng (hK6.imp fun _ e => .inl e) hB1 hB2; have hY7 : Kp (Yng w0.heap.size hb mb w6) w6 w7 := hD6.yng hK7 hB1 hB2; have hMo7 := Yng.map hY7 (Yng.map hY6 (Yng.map hK5 (Yng.map hK4 hMo hne1.1 hne1.2.1) hne1.1 hne1.2.1) hne1.1 hne1.2.1) hne1.1 hne1.2.1; have hMf7 := Yng.map hY7 (Yng.map hY6 (Yng.map hK5 (Yng.map hK4 hMf hne1.2.2.1 hne1.2.2.2.1) hne1.2.2.1 hne1.2.2.2.1) hne1.2.2.1 hne1.2.2.2.1) hne1.2.2.1 hne1.2.2.2.1; obtain ⟨w8, hrg, hRA, hK8, hz8⟩ := hMf7.range Try.underlying31)
        | (go_at_call 8; refine Calls.mono (num_any _ _) ?_; rintro e w9 ⟨rfl, rfl⟩))
      have hKw9 : Kp (fun i => w0.heap.size ≤ i) w w9 := hKp.trans ((((Yng.far hK4).trans (Yng.far hK5)).trans (Yng.far hY6)).trans (Yng.far hY7))
      have hrel0 : L3 (ob + 1) w9.heap.size f7 (over (fun _ => zeroL) (stgN (dS D1))) D fm w9 0 w8 := ⟨_, _, [], hRA, hK8, ⟨List.nodup_nil, by simp, fun k => by
        constructor
        · intro h; cases h
        · rintro ⟨h1, h2⟩
          unfold allM strM at h2
          rw [dS_nat, Option.isSome_map, h1] at h2
          cases h2⟩, hR7.imp (fun h => ⟨h, rfl⟩) fun h => ⟨h, rfl⟩⟩
      have hpl : ∀ ys : List Nat, ys.Nodup → (∀ k ∈ ys, (D k).isSome = true) → ys.length ≤ fm ∧ ((∀ k, (D k).isSome = true → k ∈ ys) → ys.length = fm) := fun ys h1 h2 => by
        obtain ⟨xs, g1, g2, g3⟩ := map_keys hMf7 fun k v hv => by
          unfold strM dS at hv
          split at hv
          · assumption
          · cases hv
        have g4 : ∀ k : Nat, k ∈ xs ↔ (D k).isSome = true := fun k => by
          rw [g2]
          unfold strM
          rw [dS_nat, Option.isSome_map]
        exact ⟨by rw [← g3]; exact len_le ys xs h1 fun k hk => (g4 k).2 (h2 k hk), fun h3 => by rw [← g3]; exact len_eq ys xs h1 g1 fun k => ⟨fun hk => (g4 k).2 (h2 k hk), fun hk => h3 k ((g4 k).1 hk)⟩⟩
      clear hW hMo hMf hKp hK4 hK5 hK6 hY6 hY7 hK7 hRA hK8 hR7
      go_loopw [17] (fun nw wr => ∃ c : Nat, nw = .int .i64 c ∧ L3 (ob + 1) w9.heap.size f7 (over (fun _ => zeroL) (stgN (dS D1))) D fm w9 c wr) (fun _ wr => wr.rangeLeft (ob + 1) w9.heap.size)
      case atStart => exact ⟨0, rfl, hrel0⟩
      case round =>
        clear hrel0
        obtain ⟨c, rfl, lef, cnt, ys, hRA, hKr, ⟨hnd, hyl, hmem⟩, hway⟩ := hrel
        have hKwr := hKw9.trans (hKr.imp fun _ e => e.elim)
        have hend : Kp (fun _ => False) w wr := Kp.new (kp_refl _ w) hKwr fun i e => .inr (by omega)
        have hln := fun ty => (hMf7.kp hKr fun e => e).len Try.underlying31 ty
        rcases hRA.next 0 with ⟨h0, hl0, hnx⟩ | ⟨kk, u, w12, cnt2, hkw, hlk, hSv, hnx, hRA2, hlt2, hK12, hz12, hen⟩
        · have hcc : ((c : Int) == 0) = true ∨ (((c : Int) == 0) = false ∧ ((c : Int) == (fm : Int)) = true) := by
            rcases hway with ⟨_, h⟩ | ⟨_, h⟩
            · left; simp; omega
            · have := (hpl ys hnd fun k hk => ((hmem k).1 hk).1).2 fun k hk => (hmem k).2 ⟨hk, hl0 _⟩
              by_cases hc : c = 0
              · left; simp; omega
              · right; constructor <;> simp <;> omega
          clear hway
          rcases hcc with g1 | ⟨g1, g2⟩
          all_goals
            go_wp2
            go_ret
            exact ⟨rfl, hend⟩
        · obtain ⟨s, hs⟩ : ∃ s, dS D kk = some s := by
            unfold strM at hSv
            obtain ⟨s, hs, _⟩ := Option.map_eq_some_iff.1 hSv
            exact ⟨s, hs⟩
          obtain rfl : u = .string s := by rw [strM_some hs] at hSv; exact (Option.some.inj hSv).symm
          obtain ⟨k, rfl, hDk⟩ := dS_home hs
          obtain ⟨⟨r, hr, rfl⟩, hD1k, hk60, hk200⟩ := hD k s hDk
          have hK12' : Kp (fun _ => False) w9 w12 := hKr.own hK12 (Nat.le_refl _)
          obtain ⟨left7, hJ8⟩ := hJ7.same hK12'
          have hrd := read_ok hJ8 (home8_yes ⟨hk60, hk200⟩)
          rw [readS_none] at hrd
          have hhk : Home p8 k := hhome k _ hDk
          have hm1 := hRA.left_is
          have hml : ∀ q, (w12.drewN q).rangeLeft (ob + 1) w9.heap.size = cnt2 := fun q => (hRA2.kp ((kp_refl (fun _ => False) w12).drewN q) (fun e => e) (fun e => e)).left_is
          have hlo := fun q => ((hMo7.kp hK12' fun e => e).kp ((kp_refl (fun _ => False) w12).drewN q) fun e => e).look Try.underlying31 (Try.zeroValue9 _) hkw false
          rw [dS_get hD1k] at hlo
          simp only [Bool.false_eq_true, if_false, Option.getD_some] at hlo
          have hL : ∀ q, RangeAt (w12.drewN q) (ob + 1) w9.heap.size (strM (dS D)) (fun n => lef n && n != (k : Int)) cnt2 := fun q => hRA2.kp ((kp_refl (fun _ => False) w12).drewN q) (fun e => e) (fun e => e)
          have hKq : ∀ q, Kp (fun _ => False) w9 (w12.drewN q) := fun q => hK12'.drewN q
          have hkn : k ∉ ys := fun e => by
            have := ((hmem k).1 e).2
            rw [hlk] at this
            cases this
          have hys : (k :: ys).Nodup ∧ (k :: ys).length ≤ fm ∧ ∀ l : Nat, l ∈ k :: ys ↔ ((D l).isSome = true ∧ (lef (l : Int) && (l : Int) != (k : Int)) = false) := by
            have h1 : (k :: ys).Nodup := List.nodup_cons.2 ⟨hkn, hnd⟩
            refine ⟨h1, (hpl _ h1 fun l hl => ?_).1, fun l => ?_⟩
            · rcases List.mem_cons.1 hl with rfl | hl
              · rw [hDk]; rfl
              · exact ((hmem l).1 hl).1
            · rw [List.mem_cons, hmem]
              by_cases e : l = k
              · subst e
                simp [hDk]
              · have e2 : ((l : Int) != (k : Int)) = true := by simp; omega
                simp [e, e2]
          rcases hway with ⟨hR, rfl⟩ | ⟨hR, hc⟩
          · have e1 : strB (f7 k) = b1S := by rw [hR.2 k hhk, over_some (by rw [dS_nat]; exact hD1k), strB_bytesOf]
            rw [e1] at hrd
            have hne2 : (b1S.toList == (bnS r).toList) = false := by
              rw [Bool.eq_false_iff]
              intro h
              exact bn_ne hr (bytesOf_inj ((str_eq _ _).1 h))
            have hend2 : ∀ q, L3 (ob + 1) w9.heap.size f7 (over (fun _ => zeroL) (stgN (dS D1))) D fm w9 0 (w12.drewN q) := fun q => ⟨_, _, _, hL q, hKq q, hys, .inl ⟨hR, rfl⟩⟩
            clear hR hD hDk hD1k e1 hJ8 hRA hRA2 hL hKq hMo7 hMf7 hJ7 hys hyl hmem hnd hkn hpl
            go_wp2_with (go_at_call 14; refine Calls.mono hrd ?_; clear hrd; rintro e w13 ⟨rfl, q, rfl⟩; have hlo2 := hlo q; clear hlo)
            exact ⟨⟨0, rfl, hend2 _⟩, by rw [hm1, hml]; exact hlt2⟩
          · have e1 : strB (f7 k) = bnS r := by rw [hR.2 k hhk, over_some (by rw [dS_nat]; exact hDk), strB_bytesOf]
            rw [e1] at hrd
            have hcb : c ≤ 100 := by omega
            have hend2 : ∀ q, L3 (ob + 1) w9.heap.size f7 (over (fun _ => zeroL) (stgN (dS D1))) D fm w9 (c + 1) (w12.drewN q) := fun q => ⟨_, _, _, hL q, hKq q, hys, .inr ⟨hR, by rw [List.length_cons]; omega⟩⟩
            clear hR hD hDk hD1k e1 hJ8 hRA hRA2 hL hKq hMo7 hMf7 hJ7 hlo hc hys hyl hmem hnd hkn hpl
            go_wp2_with (go_at_call 14; refine Calls.mono hrd ?_; clear hrd; rintro e w13 ⟨rfl, q, rfl⟩)
            exact ⟨⟨c + 1, by simp, hend2 _⟩, by rw [hm1, hml]; exact hlt2⟩
end
end Go.Proofs.Ytkcclaljhedmjaa

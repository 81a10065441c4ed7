/- CacheSteps: the law's state, held, the calls in the law's words. No conditions. -/
import Derived.Test.YtkcclaljhedmjaaKC
import Derived.Test.YtkcclaljhedmjaaC0
import Derived.Deep.QuietTactic
import Derived.BigQuiet
namespace Go.Proofs.Ytkcclaljhedmjaa
section
open Go.RowKit Go.Maps Go.Lib
/-- what must be read -/
def want8 (D : Nat → Option ByteArray) (H : Int → Option ByteArray) (k : Int) : ByteArray := (dS D k).getD ((H k).getD (strB zeroL))
section
variable {w : World} {yb cb size hh dd pp hm dm pm : Nat} {D : Nat → Option ByteArray} {P : Nat → Nat} {H : Int → Option ByteArray}
set_option maxHeartbeats 1000000 in
theorem want_any (hy : Play8 w yb cb size hh dd pp) (hD : MapAt w dd (strM (dS D)) dm) (hH : MapAt w hh (strM H) hm) {at_ : Int} (hw : (Lit.int .i64 at_).wf = true) : Calls Try.prog 47 #[.pointer (some ⟨yb, 0, none⟩), .int .i64 at_] w (StrPost (want8 D H at_) w) := by
  obtain ⟨⟨p0, p1, p2, p3, p4⟩, z0, z1, z2, z3, z4⟩ := row5 hy
  have hl1 := hD.look Try.underlying31 (Try.zeroValue9 w) hw true
  have hl2 := hH.look Try.underlying31 (Try.zeroValue9 w) hw true
  cases hd : dS D at_ with
  | some s =>
    rw [strM_some hd] at hl1
    have e : want8 D H at_ = s := by rw [want8, hd]; rfl
    rw [e]
    clear e hd hD hH
    go_enter Try.func47, Try.ntmps47
    go_wp2
    go_ret
    exact ⟨rfl, kp_refl _ _⟩
  | none =>
    rw [strM_none hd] at hl1
    cases hh : H at_ with
    | some s =>
      rw [strM_some hh] at hl2
      have e : want8 D H at_ = s := by rw [want8, hd, hh]; rfl
      rw [e]
      clear e hd hh hD hH
      go_enter Try.func47, Try.ntmps47
      go_wp2
      go_ret
      exact ⟨rfl, kp_refl _ _⟩
    | none =>
      rw [strM_none hh] at hl2
      have e : want8 D H at_ = strB zeroL := by rw [want8, hd, hh]; rfl
      rw [e]
      have hmk : (Instr.makeSlice 61 (.int .i64 256) (.int .i64 256)).run Try.prog w = .ok (.slice (some ⟨w.heap.size, 0, none⟩) 256 256) (w.alloc (.cells (cellsOf zeroL) 5)) := mk_bytes w 256 (by omega)
      have hcv := conv_row (c := 256) (heap_alloc_new w (.cells (cellsOf zeroL) 5)) zeroL_len
      clear e hd hh hD hH
      generalize strB zeroL = zz at *
      go_enter Try.func47, Try.ntmps47
      go_wp2
      go_ret
      exact ⟨rfl, kp_alloc _ _ _⟩
end
end
section
open Go.RowKit Go.Maps Go.Lib
def p8 : Pl := ⟨200, 0, 60, by omega⟩
/-- the law's state, the cache's word and the maps' word apart -/
structure QW (B yb cb j hb d ib mb size hh pp : Nat) (w : World) (dd : Nat) (v : Value) (ring : List Nat) (X : Nat → Hb) (f : Nat → List Nat) (writes : Int) (D : Nat → Option ByteArray) (P : Nat → Nat) (H : Int → Option ByteArray) (hm : Nat) (Dm : Nat → Option ByteArray) (dm : Nat) (Pm : Nat → Nat) (pm : Nat) (hf : Nat → List Nat) : Prop where
  jx : JX p8 w j d mb ib f false false writes false (fun _ => none) 0
  rest : Rest p8 (headL []) f hf
  cat : CAt w cb j hb size v ring X
  cst : CSt ring X D P (fun l => strB (f l))
  play : Play8 w yb cb size hh dd pp
  home : MapAt w hh (strM H) hm
  dirt : MapAt w dd (strM (dS Dm)) dm
  pins : MapAt w pp (pinM Pm) pm
  sz : ∀ l s, D l = some s → s.size = 256
  ne : (hb ≠ mb ∧ hh ≠ hb ∧ hh ≠ mb) ∧ (dd ≠ hb ∧ dd ≠ mb ∧ dd ≠ hh) ∧ pp ≠ hb ∧ pp ≠ mb ∧ pp ≠ hh ∧ pp ≠ dd
  far : (B ≤ yb ∧ B ≤ cb ∧ B ≤ j ∧ B ≤ hb) ∧ (B ≤ d ∧ B ≤ ib ∧ B ≤ mb) ∧ B ≤ hh ∧ B ≤ pp ∧ B ≤ dd
abbrev QSt (B yb cb j hb d ib mb size hh pp : Nat) (w : World) (dd : Nat) (v : Value) (ring : List Nat) (X : Nat → Hb) (f : Nat → List Nat) (writes : Int) (D : Nat → Option ByteArray) (P : Nat → Nat) (H : Int → Option ByteArray) (hm dm pm : Nat) : Prop :=
  QW B yb cb j hb d ib mb size hh pp w dd v ring X f writes D P H hm D dm P pm (hOf H)
section
variable {B yb cb j hb d ib mb size hh pp : Nat} {w w' : World} {dd : Nat} {v : Value} {ring : List Nat} {X : Nat → Hb} {f : Nat → List Nat} {writes : Int} {D : Nat → Option ByteArray} {P : Nat → Nat} {H : Int → Option ByteArray} {hm dm pm : Nat} {Dm : Nat → Option ByteArray} {Pm : Nat → Nat} {hf : Nat → List Nat}
theorem QW.same (h : QW B yb cb j hb d ib mb size hh pp w dd v ring X f writes D P H hm Dm dm Pm pm hf) (hK : Kp (fun _ => False) w w') : QW B yb cb j hb d ib mb size hh pp w' dd v ring X f writes D P H hm Dm dm Pm pm hf :=
  ⟨h.jx.same hK, h.rest, h.cat.same hK, h.cst, (hK.block yb (blk_lt h.play) fun e => e).trans h.play, h.home.kp hK fun e => e, h.dirt.kp hK fun e => e, h.pins.kp hK fun e => e, h.sz, h.ne, h.far⟩
/-- how many are dirty -/
theorem QW.many (h : QW B yb cb j hb d ib mb size hh pp w dd v ring X f writes D P H hm Dm dm Pm pm hf) {ds : List Nat} (hnd : ds.Nodup) (hmem : ∀ l, l ∈ ds ↔ (Dm l).isSome = true) : ds.length = dm := by
  obtain ⟨xs, h1, h2, h3⟩ := map_keys h.dirt fun k u hu => by
    unfold strM dS at hu
    split at hu
    · assumption
    · cases hu
  rw [← h3]
  exact len_eq ds xs hnd h1 fun k => by
    rw [hmem, h2]
    unfold strM
    rw [dS_nat, Option.isSome_map]
theorem QW.few (h : QSt B yb cb j hb d ib mb size hh pp w dd v ring X f writes D P H hm dm pm) : dm ≤ 1024 ∧ pm ≤ 1024 := by
  have h1 := h.cat.cap
  have h2 := h.cat.lim
  constructor
  · obtain ⟨xs, g1, g2, g3⟩ := map_keys h.dirt fun k u hu => by
      unfold strM dS at hu
      split at hu
      · assumption
      · cases hu
    have := len_le xs ring g1 fun x hx => Classical.byContradiction fun e => by
      have := (g2 x).1 hx
      unfold strM at this
      rw [dS_nat, (h.cst.out x e).1] at this
      cases this
    omega
  · obtain ⟨xs, g1, g2, g3⟩ := map_keys h.pins fun k u hu => by
      unfold pinM at hu
      split at hu
      · rename_i h; exact h.1
      · cases hu
    have := len_le xs ring g1 fun x hx => Classical.byContradiction fun e => by
      have := (g2 x).1 hx
      rw [pinM_none (h.cst.out x e).2] at this
      cases this
    omega
def HeldRel (a off n : Nat) (ds : List Nat) (w : World) (k : Nat) (wr : World) : Prop :=
  k ≤ n ∧ (∃ cur, wr.heap[a]? = some (.cells cur 3) ∧ off + n ≤ cur.size ∧ (∀ i, k ≤ i → i < n → cur[off + i]? = (intsC ds)[i]?) ∧ ∀ i, i < k → cur[off + i]? = some (.int .i64 (-1))) ∧ Kp (fun i => i = a) w wr
theorem HeldRel.next {a off n k : Nat} {ds : List Nat} {wr : World} (h : HeldRel a off n ds w k wr) (hk : k < n) : HeldRel a off n ds w (k + 1) (wr.setCell ⟨a, off + k, none⟩ (.int .i64 (-1))) := by
  obtain ⟨h1, ⟨cur, h2, h3, h4, h5⟩, h6⟩ := h
  refine ⟨by omega, ⟨_, set_blk h2 _ _, by simpa using h3, fun i h7 h8 => ?_, fun i hi => ?_⟩, h6.trans (kp_set1 _ _ _ _)⟩
  · rw [Array.getElem?_setIfInBounds, if_neg (by omega)]
    exact h4 i (by omega) h8
  · rw [Array.getElem?_setIfInBounds]
    split
    · rw [if_pos (by omega)]
    · exact h5 i (by omega)
def QTrue (w : World) (e : Ending) (w' : World) : Prop := e = .returned (.bool true) ∧ Kp (fun _ => False) w w'
end
end
section
open Go.RowKit Go.Maps Go.Lib
section
variable {B yb cb j hb d ib mb size hh pp : Nat} {w w' : World} {dd : Nat} {v : Value} {ring : List Nat} {X : Nat → Hb} {f : Nat → List Nat} {writes : Int} {D : Nat → Option ByteArray} {P : Nat → Nat} {H : Int → Option ByteArray} {hm dm pm : Nat}
theorem HeldRel.quiet {a off n k : Nat} {ds : List Nat} {wr : World} (h : HeldRel a off n ds w k wr) (q : Nat) : HeldRel a off n ds w k (wr.drewN q) := ⟨h.1, h.2.1, h.2.2.drewN q⟩
theorem dS_get {k : Nat} {s : ByteArray} (h : D k = some s) : strM (dS D) (k : Int) = some (.string s) := strM_some (by rw [dS_nat]; exact h)
set_option maxHeartbeats 2000000 in
set_option maxRecDepth 100000 in
theorem held_any (h : QSt B yb cb j hb d ib mb size hh pp w dd v ring X f writes D P H hm dm pm) : Calls Try.prog 23 #[.pointer (some ⟨yb, 0, none⟩)] w (QTrue w) := by
  have hdirty := dirty_any h.cat
  have hkeys : ∀ ds : List Nat, (∀ l, l ∈ ds ↔ l ∈ ring ∧ (X l).dirty = true) → ∀ l, l ∈ ds ↔ (D l).isSome = true := fun ds hmem => h.cst.keys hmem
  have hcap := h.cat.cap
  have hlim := h.cat.lim
  have gs : decide (size < ring.length) = false := by simp; omega
  obtain ⟨⟨p0, p1, p2, p3, p4⟩, z0, z1, z2, z3, z4⟩ := row5 h.play
  go_enter Try.func23, Try.ntmps23
  go_wp2_with (first
    | (go_at_call 51; refine Calls.mono hdirty ?_; clear hdirty; rintro e w2 ⟨o, ds, rfl, hI, hsd, hmem, hK2, hnew⟩; have hdirty2 := dirty_any (h.same hK2).cat; obtain ⟨ao, c, rfl⟩ := hI.shape; obtain rfl := h.many (hsd.imp fun h => Nat.ne_of_lt h) (hkeys ds hmem); obtain ⟨⟨q0, q1, q2, q3, q4⟩, y0, y1, y2, y3, y4⟩ := row5 (h.same hK2).play)
    | (go_at_call 51; refine Calls.mono hdirty2 ?_; clear hdirty2; rintro e w3 ⟨o2, ds2, rfl, hI2, hsd2, hmem2, hK3, hnew2⟩; obtain ⟨ao2, c2, rfl⟩ := hI2.shape))
  have he : ds2 = ds := sorted_one hsd2 hsd fun k => by rw [hmem, hmem2]
  subst he
  have h3 := (h.same hK2).same hK3
  have hlen0 := fun ty => h3.dirt.len Try.underlying31 ty
  have hlen := fun q ty => (h3.same ((kp_refl (fun _ => False) w3).drewN q)).dirt.len Try.underlying31 ty
  obtain ⟨⟨i0, i1, i2, i3, i4⟩, l0, l1, l2, l3, l4⟩ := row5 h3.play
  have hheld := fun w' (hK : Kp (fun _ => False) w3 w') => cheld_any (h3.same hK).cat
  go_wp2
  go_quiet ((go_at_call 52; exact Calls.quiet_of_same (hheld _ ((kp_refl (fun _ => False) w3).drewN _))))
  have hKq : Kp (fun _ => False) w (w3.drewN nq) := (hK2.trans hK3).drewN nq
  have h4 := h.same hKq
  have hI4 : RingAt (w3.drewN nq) (.slice ao ds2.length c) ds2 := (hI.kp hK3 fun _ _ e => e).kp (((kp_refl (fun _ => False) w3).drewN nq)) fun _ _ e => e
  have hI5 : RingAt (w3.drewN nq) (.slice ao2 ds2.length c2) ds2 := hI2.kp (((kp_refl (fun _ => False) w3).drewN nq)) fun _ _ e => e
  have hsep : ∀ b, ringB (.slice ao ds2.length c) = some b → ringB (.slice ao2 ds2.length c2) ≠ some b := fun b hb e => by
    have h1 := hnew2 b e
    have h2 := hI.lt hb
    omega
  have hpos : ∀ x ∈ ds2, x < 200 ∧ (D x).isSome = true := fun x hx => ⟨(h.cat.home x ((hmem x).1 hx).1).2, (hkeys ds2 hmem x).1 hx⟩
  have hnd : ds2.length ≤ 100000 := h4.dirt.few
  clear hlen hlen0 hheld h3 hI hI2 hK2 hK3 hsd hsd2 hmem hmem2 hnew2 p0 p1 p2 p3 p4 z0 z1 z2 z3 z4 q0 q1 q2 q3 q4 y0 y1 y2 y3 y4 i0 i1 i2 i3 i4 l0 l1 l2 l3 l4
  generalize w3.drewN nq = w4 at *
  obtain ⟨⟨i0, i1, i2, i3, i4⟩, l0, l1, l2, l3, l4⟩ := row5 h4.play
  go_wp2
  rcases hI4 with ⟨e4, rfl⟩ | ⟨b, o2, cap, cur, e, hbk, hbo, _, _, hget⟩
  · simp only [List.length_nil, Value.slice.injEq] at e4
    obtain ⟨rfl, -, rfl⟩ := e4
    go_loopw [5] (fun i wr => i = .int .i64 0 ∧ wr = w4) (fun i _ => 1)
    case atStart => exact ⟨rfl, rfl⟩
    case round =>
      obtain ⟨rfl, rfl⟩ := hrel
      go_wp2
      go_ret
      exact ⟨rfl, hKq⟩
  · simp only [Value.slice.injEq] at e
    obtain ⟨rfl, -, rfl⟩ := e
    have hrel0 : HeldRel b o2 ds2.length ds2 w4 0 w4 := ⟨by omega, ⟨cur, hbk, by omega, fun i _ hi => hget i hi, fun i hi => by omega⟩, kp_refl _ _⟩
    have hbw : w.heap.size ≤ b := hnew b rfl
    go_loopw [5] (fun i wr => ∃ k : Nat, i = .int .i64 k ∧ HeldRel b o2 ds2.length ds2 w4 k wr) (fun i _ => ds2.length - (RowKit.intOf i).toNat)
    case atStart => exact ⟨0, rfl, hrel0⟩
    case round =>
      obtain ⟨k, rfl, hr⟩ := hrel
      have hr0 := hr
      obtain ⟨hk, ⟨cu, hcu, hcs, hc1, hc2⟩, hKr⟩ := hr
      have hKw : Kp (fun _ => False) w wr := Kp.new hKq hKr fun i e => .inr (by omega)
      have h5 := h.same hKw
      by_cases hlt : k < ds2.length
      · have g3 : decide ((k : Int) < (ds2.length : Int)) = true := by simp; omega
        obtain ⟨x, hxk⟩ : ∃ x, ds2[k]? = some x := ⟨_, List.getElem?_eq_getElem hlt⟩
        have hxp := hpos x (List.mem_of_getElem? hxk)
        obtain ⟨s, hs⟩ := Option.isSome_iff_exists.1 hxp.2
        have hcell : wr.cell? ⟨b, o2 + k, none⟩ = some (.int .i64 (x : Int)) := cell_of hcu _ _ ((hc1 k (Nat.le_refl _) hlt).trans (intsC_get hxk))
        have hfz := frozen_of hcu (o2 + k)
        have hx1 : x < 200 := hxp.1
        have hlk := fun q => (h5.same ((kp_refl (fun _ => False) wr).drewN q)).dirt.look Try.underlying31 (Try.zeroValue9 _) (k := (x : Int)) (wf_i64 (by omega)) true
        rw [dS_get hs] at hlk
        simp only [if_true, Option.getD_some, Option.isSome_some] at hlk
        obtain ⟨⟨p0, p1, p2, p3, p4⟩, z0, z1, z2, z3, z4⟩ := row5 h5.play
        clear h5 hc1 hget
        go_wp2
        go_quiet (fail)
        have hr5 := hr0.quiet nq
        have hnx := fun q => (hr5.quiet q).next hlt
        have hcell5 : (wr.drewN nq).cell? ⟨b, o2 + k, none⟩ = some (.int .i64 (x : Int)) := hcell
        have hfz5 : (wr.drewN nq).frozen? ⟨b, o2 + k, none⟩ = false := hfz
        have hprev : ∀ k', k = k' + 1 → (wr.drewN nq).cell? ⟨b, o2 + k', none⟩ = some (.int .i64 (-1)) := fun k' e => cell_of hcu _ _ (hc2 k' (by omega))
        clear hr0 hr5 hcell hfz hlk hKw hKr hcu hc2 p0 p1 p2 p3 p4 z0 z1 z2 z3 z4
        generalize wr.drewN nq = w5 at *
        rcases Nat.eq_zero_or_pos k with rfl | hk0
        · simp only [Nat.add_zero] at hcell5 hfz5 hnx
          go_wp2
          go_quiet (fail)
          go_wp2
          exact ⟨⟨1, rfl, hnx _⟩, by simp [RowKit.intOf]; omega⟩
        · obtain ⟨k', rfl⟩ : ∃ k', k = k' + 1 := ⟨k - 1, by omega⟩
          have hp := hprev k' rfl
          clear hprev
          have g5 : decide ((0 : Int) < ((k' + 1 : Nat) : Int)) = true := by simp
          have g6 : decide ((x : Int) ≤ -1) = false := by simp; omega
          go_wp2
          go_quiet (fail)
          go_wp2
          exact ⟨⟨k' + 1 + 1, by simp, hnx _⟩, by simp [RowKit.intOf]; omega⟩
      · have g3 : decide ((k : Int) < (ds2.length : Int)) = false := by simp; omega
        obtain rfl : k = ds2.length := by omega
        have hI6 : RingAt wr (.slice ao2 ds2.length c2) ds2 := hI5.kp hKr fun b2 hb2 e => hsep b rfl (e ▸ hb2)
        rcases hI6 with ⟨e6, rfl⟩ | ⟨b6, o6, cap6, cur6, e6, hbk6, hbo6, _, _, hget6⟩
        · simp only [List.length_nil, Value.slice.injEq] at e6
          obtain ⟨rfl, -, rfl⟩ := e6
          go_wp2
          go_ret
          exact ⟨rfl, hKw⟩
        · simp only [Value.slice.injEq] at e6
          obtain ⟨rfl, -, rfl⟩ := e6
          cases hds : ds2 with
          | nil =>
            subst hds
            go_wp2
            go_ret
            exact ⟨rfl, hKw⟩
          | cons x xs =>
            have hc6 : wr.cell? ⟨b6, o6, none⟩ = some (.int .i64 (x : Int)) := cell_of hbk6 _ _ ((hget6 0 (by rw [hds]; simp)).trans (intsC_get (by rw [hds]; rfl)))
            have g7 : decide ((0 : Int) ≤ (x : Int)) = true := by simp
            go_wp2
            go_ret
            exact ⟨rfl, hKw⟩
end
end
section
open Go.RowKit Go.Maps Go.Lib
section
variable {B yb cb j hb d ib mb size hh pp : Nat} {w w' : World} {dd : Nat} {v : Value} {ring : List Nat} {X : Nat → Hb} {f : Nat → List Nat} {writes : Int} {D : Nat → Option ByteArray} {P : Nat → Nat} {H : Int → Option ByteArray} {hm dm pm : Nat} {Dm : Nat → Option ByteArray} {Pm : Nat → Nat} {hf : Nat → List Nat}
/-- young, and no step's box -/
def Fr (B : Nat) (w : World) (i : Nat) : Prop := B ≤ i ∧ ∀ cs, w.heap[i]? ≠ some (.cells cs 59)
theorem Fr.keep {i : Nat} {cs : Array Value} (hK : Kp (Fr B w) w w') (h : w.heap[i]? = some (.cells cs 59)) : w'.heap[i]? = some (.cells cs 59) := (hK.block i (blk_lt h) fun e => e.2 _ h).trans h
theorem Fr.far (hK : Kp (Fr B w) w w') : Kp (fun i => B ≤ i) w w' := hK.imp fun _ h => h.1
theorem tch_far (hC : CAt w cb j hb size v ring X) (hT : Tch cb hb w w') (h1 : B ≤ cb) (h2 : B ≤ hb) : Kp (Fr B w) w w' := hT.imp fun i hi => by
  obtain ⟨es, clock, hbb, _⟩ := hC.map
  rcases hi with rfl | rfl | ⟨h, cs, e | e⟩
  · exact ⟨h1, fun cs e => by rw [hC.row] at e; simp at e⟩
  · exact ⟨h2, fun cs e => by rw [hbb] at e; cases e⟩
  · exact ⟨by omega, fun cs2 e2 => by rw [e] at e2; simp at e2⟩
  · exact ⟨by omega, fun cs2 e2 => by rw [e] at e2; simp at e2⟩
/-- the cache has done something -/
theorem QW.cache {v' : Value} {ring' : List Nat} {X' : Nat → Hb} {D' : Nat → Option ByteArray} {P' : Nat → Nat} (h : QW B yb cb j hb d ib mb size hh pp w dd v ring X f writes D P H hm Dm dm Pm pm hf) (hC : CAt w' cb j hb size v' ring' X') (hS : CSt ring' X' D' P' (fun l => strB (f l))) (hT : Tch cb hb w w') (hsz : ∀ l s, D' l = some s → s.size = 256) : QW B yb cb j hb d ib mb size hh pp w' dd v' ring' X' f writes D' P' H hm Dm dm Pm pm hf := by
  obtain ⟨left, hJ⟩ := h.jx
  obtain ⟨⟨n1, n2, n3⟩, ⟨n4, n5, n6⟩, n7, n8, n9, n10⟩ := h.ne
  have hmap : ∀ b T m, MapAt w b T m → b ≠ hb → ¬ Tag cb hb w b := fun b T m hM hn hi => by
    obtain ⟨es, clock, hbb, _⟩ := hM
    rcases hi with e | e | ⟨_, cs, e | e⟩
    · rw [e, h.cat.row] at hbb; cases hbb
    · exact hn e
    · rw [hbb] at e; cases e
    · rw [hbb] at e; cases e
  have hy : ¬ Tag cb hb w yb := fun hi => by
    have hyy := h.play
    unfold Play8 at hyy
    obtain ⟨es, clock, hbb, _⟩ := h.cat.map
    rcases hi with e | e | ⟨_, cs, e | e⟩
    · rw [e, h.cat.row] at hyy; simp at hyy
    · rw [e, hbb] at hyy; cases hyy
    · rw [hyy] at e; simp at e
    · rw [hyy] at e; simp at e
  exact ⟨⟨left, hT.jw h.cat hJ n1.symm⟩, h.rest, hC, hS, (hT.block yb (blk_lt h.play) hy).trans h.play, h.home.kp hT (hmap _ _ _ h.home n2), h.dirt.kp hT (hmap _ _ _ h.dirt n4), h.pins.kp hT (hmap _ _ _ h.pins n7), hsz, h.ne, h.far⟩
theorem room_of {n k : Nat} {ring' : List Nat} (hB : BusyIs D P n) (hk : k ∈ ring') (h1 : D k = none) (h2 : P k = 0) (hsub : ∀ l, (D l).isSome = true ∨ 0 < P l → l ∈ ring') (hl : ring'.length ≤ size) : n < size := by
  obtain ⟨xs, g1, g2, g3⟩ := hB
  have hn : k ∉ xs := fun e => by
    rcases (g2 k).1 e with e | e
    · rw [h1] at e; cases e
    · omega
  have := len_le (k :: xs) ring' (List.nodup_cons.2 ⟨hn, g1⟩) fun x hx => by
    rcases List.mem_cons.1 hx with rfl | hx
    · exact hk
    · exact hsub x ((g2 x).1 hx)
  simp at this
  omega
theorem full_of {n k : Nat} {R : Nat → ByteArray} (hB : BusyIs D P n) (hF : Full size ring X k) (hS : CSt ring X D P R) (hnd : ring.Nodup) : size ≤ n ∧ D k = none ∧ P k = 0 := by
  obtain ⟨h1, h2, h3⟩ := hF
  obtain ⟨xs, g1, g2, g3⟩ := hB
  refine ⟨?_, hS.out k h1⟩
  rw [← h2, ← g3]
  refine len_le ring xs hnd fun l hl => (g2 l).2 ?_
  have hn := h3 l hl
  unfold Hb.need at hn
  rw [Bool.or_eq_true] at hn
  rcases hn with hn | hn
  · exact .inl (by rw [hS.dirty l hl hn]; rfl)
  · right
    rw [← hS.pins l hl]
    simpa using hn
/-- the code that a call of a block's own gives -/
def codeOf (D : Nat → Option ByteArray) (P : Nat → Nat) (size n : Nat) (at_ : Int) : Int := if 60 ≤ at_ ∧ at_ < 200 then (if ((dS D at_).isSome || (pinM P at_).isSome) = false ∧ size ≤ n then 801 else 0) else 703
theorem busy_bool (k : Nat) : ((dS D (k : Int)).isSome || (pinM P (k : Int)).isSome) = false ↔ (D k = none ∧ P k = 0) := by
  rw [dS_nat, Bool.or_eq_false_iff]
  constructor
  · rintro ⟨h1, h2⟩
    refine ⟨Option.isSome_eq_false_iff.1 h1 |> Option.isNone_iff_eq_none.1, ?_⟩
    rcases Nat.eq_zero_or_pos (P k) with h | h
    · exact h
    · rw [pinM_some h] at h2; cases h2
  · rintro ⟨h1, h2⟩
    rw [h1, pinM_none h2]
    exact ⟨rfl, rfl⟩
theorem code_no {n : Nat} {at_ : Int} (h : ¬ (60 ≤ at_ ∧ at_ < 200)) : codeOf D P size n at_ = 703 := by unfold codeOf; rw [if_neg h]
theorem code_full {n k : Nat} (h : 60 ≤ k ∧ k < 200) (h1 : size ≤ n) (h2 : D k = none) (h3 : P k = 0) : codeOf D P size n (k : Int) = 801 := by
  unfold codeOf
  rw [if_pos (by omega), if_pos ⟨busy_bool k |>.2 ⟨h2, h3⟩, h1⟩]
theorem code_ok {n k : Nat} (h : 60 ≤ k ∧ k < 200) (h1 : D k = none → P k = 0 → n < size) : codeOf D P size n (k : Int) = 0 := by
  unfold codeOf
  rw [if_pos (by omega), if_neg]
  rintro ⟨h2, h3⟩
  obtain ⟨h4, h5⟩ := (busy_bool k).1 h2
  have := h1 h4 h5
  omega
theorem home8 {at_ : Int} (h : ¬ (60 ≤ at_ ∧ at_ < 200)) : homeB p8.n p8.fr p8.bl at_ = false := by
  show homeB 200 0 60 at_ = false
  simp [homeB]
  omega
theorem home8_yes {k : Nat} (h : 60 ≤ k ∧ k < 200) : homeB p8.n p8.fr p8.bl (k : Int) = true := by
  show homeB 200 0 60 (k : Int) = true
  simp [homeB]
  omega
theorem readS_none (f : Nat → List Nat) (k : Nat) : readS (fun _ => none) f (k : Int) = strB (f k) := by simp [readS]
end
end
section
open Go.RowKit Go.Maps Go.Lib
section
variable {B yb cb j hb d ib mb size hh pp : Nat} {w w' : World} {dd : Nat} {v : Value} {ring : List Nat} {X : Nat → Hb} {f : Nat → List Nat} {writes : Int} {D : Nat → Option ByteArray} {P : Nat → Nat} {H : Int → Option ByteArray} {hm dm pm : Nat} {Dm : Nat → Option ByteArray} {Pm : Nat → Nat} {hf : Nat → List Nat}
/-- behind a call of the cache: the state, the maps as they were -/
def BehindQ (B yb cb j hb d ib mb size hh pp dd : Nat) (f : Nat → List Nat) (writes : Int) (D : Nat → Option ByteArray) (P : Nat → Nat) (H : Int → Option ByteArray) (hm dm pm : Nat) (D' : Nat → Option ByteArray) (P' : Nat → Nat) (w w' : World) : Prop :=
  Kp (Fr B w) w w' ∧ ∃ v' ring' X', QW B yb cb j hb d ib mb size hh pp w' dd v' ring' X' f writes D' P' H hm D dm P pm (hOf H)
def WriteQ (B yb cb j hb d ib mb size hh pp dd : Nat) (f : Nat → List Nat) (writes : Int) (D : Nat → Option ByteArray) (P : Nat → Nat) (H : Int → Option ByteArray) (hm dm pm : Nat) (n : Nat) (at_ : Int) (s : ByteArray) (w : World) (e : Ending) (w' : World) : Prop :=
  e = .returned (.int .i64 (codeOf D P size n at_)) ∧ ∃ D', BehindQ B yb cb j hb d ib mb size hh pp dd f writes D P H hm dm pm D' P w w' ∧ ((codeOf D P size n at_ = 0 ∧ 0 ≤ at_ ∧ D' = putD D at_.toNat s) ∨ (codeOf D P size n at_ ≠ 0 ∧ D' = D))
theorem QW.behind_quiet (h : QSt B yb cb j hb d ib mb size hh pp w dd v ring X f writes D P H hm dm pm) (q : Nat) : BehindQ B yb cb j hb d ib mb size hh pp dd f writes D P H hm dm pm D P w (w.drewN q) :=
  ⟨(kp_refl _ w).drewN q, _, _, _, h.same ((kp_refl (fun _ => False) w).drewN q)⟩
theorem QW.behind {v' : Value} {ring' : List Nat} {X' : Nat → Hb} {D' : Nat → Option ByteArray} {P' : Nat → Nat} (h : QSt B yb cb j hb d ib mb size hh pp w dd v ring X f writes D P H hm dm pm) (hC : CAt w' cb j hb size v' ring' X') (hS : CSt ring' X' D' P' (fun l => strB (f l))) (hT : Tch cb hb w w') (hsz : ∀ l s, D' l = some s → s.size = 256) : BehindQ B yb cb j hb d ib mb size hh pp dd f writes D P H hm dm pm D' P' w w' :=
  ⟨tch_far h.cat hT h.far.1.2.1 h.far.1.2.2.2, _, _, _, h.cache hC hS hT hsz⟩
theorem nat_of {at_ : Int} (h : 60 ≤ at_ ∧ at_ < 200) : ∃ k : Nat, at_ = k ∧ 60 ≤ k ∧ k < 200 := ⟨at_.toNat, by omega, by omega, by omega⟩
theorem CSt.sub {R : Nat → ByteArray} (h : CSt ring X D P R) (l : Nat) (hl : (D l).isSome = true ∨ 0 < P l) : l ∈ ring := Classical.byContradiction fun e => by
  obtain ⟨h1, h2⟩ := h.out l e
  rcases hl with hl | hl
  · rw [h1] at hl; cases hl
  · omega
theorem putD_sub {k l : Nat} {s : ByteArray} (h : (D l).isSome = true) : (putD D k s l).isSome = true := by
  unfold putD
  split
  · rfl
  · exact h
theorem qwrite (h : QSt B yb cb j hb d ib mb size hh pp w dd v ring X f writes D P H hm dm pm) {n : Nat} (hB : BusyIs D P n) (at_ : Int) (s : ByteArray) (hs : s.size = 256) : Calls Try.prog 26 #[.pointer (some ⟨cb, 0, none⟩), .int .i64 at_, .string s] w (WriteQ B yb cb j hb d ib mb size hh pp dd f writes D P H hm dm pm n at_ s w) := by
  obtain ⟨left, hJ⟩ := h.jx
  by_cases h60 : 60 ≤ at_ ∧ at_ < 200
  · obtain ⟨k, rfl, hk⟩ := nat_of h60
    refine (cwrite_any h.cat h.cst hJ (readS_none f k).symm (home8_yes hk) hk s hs).mono ?_
    rintro e w' ⟨v', ring', X', D', hC, hS, hT, ⟨rfl, hkr, rfl⟩ | ⟨rfl, hF, rfl⟩⟩
    · have hc : codeOf D P size n (k : Int) = 0 := code_ok hk fun h1 h2 => room_of hB hkr h1 h2 (fun l hl => hS.sub l (hl.imp (fun e => putD_sub e) id)) hC.cap
      refine ⟨by rw [hc], _, h.behind hC hS hT fun l t hl => ?_, .inl ⟨hc, by omega, by rw [Int.toNat_natCast]⟩⟩
      unfold putD at hl
      split at hl
      · cases hl; exact hs
      · exact h.sz l t hl
    · obtain ⟨h1, h2, h3⟩ := full_of hB hF hS hC.nodup
      have hc : codeOf D' P size n (k : Int) = 801 := code_full hk h1 h2 h3
      exact ⟨by rw [hc], _, h.behind hC hS hT h.sz, .inr ⟨by rw [hc]; decide, rfl⟩⟩
  · refine (cwrite_no h.cat hJ (home8 h60) s).mono ?_
    rintro e w' ⟨rfl, q, rfl⟩
    have hc : codeOf D P size n at_ = 703 := code_no h60
    exact ⟨by rw [hc], _, h.behind_quiet q, .inr ⟨by rw [hc]; decide, rfl⟩⟩
theorem QW.at_home (h : QW B yb cb j hb d ib mb size hh pp w dd v ring X f writes D P H hm Dm dm Pm pm hf) {k : Nat} (hk : 60 ≤ k ∧ k < 200) : f k = hf k := h.rest.2 k (by unfold Home p8; simp; omega)
def ReadQ (B yb cb j hb d ib mb size hh pp dd : Nat) (f : Nat → List Nat) (writes : Int) (D : Nat → Option ByteArray) (P : Nat → Nat) (H : Int → Option ByteArray) (hm dm pm : Nat) (n : Nat) (at_ : Int) (w : World) (e : Ending) (w' : World) : Prop :=
  ∃ t, e = .returned (.tuple #[.string t, .int .i64 (codeOf D P size n at_)]) ∧ BehindQ B yb cb j hb d ib mb size hh pp dd f writes D P H hm dm pm D P w w' ∧ ((codeOf D P size n at_ = 0 ∧ t = want8 D H at_) ∨ (codeOf D P size n at_ ≠ 0 ∧ t = ByteArray.empty))
theorem qread (h : QSt B yb cb j hb d ib mb size hh pp w dd v ring X f writes D P H hm dm pm) {n : Nat} (hB : BusyIs D P n) (at_ : Int) : Calls Try.prog 46 #[.pointer (some ⟨cb, 0, none⟩), .int .i64 at_] w (ReadQ B yb cb j hb d ib mb size hh pp dd f writes D P H hm dm pm n at_ w) := by
  obtain ⟨left, hJ⟩ := h.jx
  by_cases h60 : 60 ≤ at_ ∧ at_ < 200
  · obtain ⟨k, rfl, hk⟩ := nat_of h60
    refine (cread_any h.cat h.cst hJ (readS_none f k).symm (home8_yes hk) hk).mono ?_
    rintro e w' ⟨v', ring', X', hC, hS, hT, ⟨rfl, hkr⟩ | ⟨rfl, hF⟩⟩
    · have hc : codeOf D P size n (k : Int) = 0 := code_ok hk fun h1 h2 => room_of hB hkr h1 h2 hS.sub hC.cap
      refine ⟨_, by rw [hc], h.behind hC hS hT h.sz, .inl ⟨hc, ?_⟩⟩
      have e : strB (f k) = (H (k : Int)).getD (strB zeroL) := by rw [h.at_home hk, hOf, strB_bytesOf]; rfl
      rw [want8, dS_nat, ← e]
    · obtain ⟨h1, h2, h3⟩ := full_of hB hF hS hC.nodup
      have hc : codeOf D P size n (k : Int) = 801 := code_full hk h1 h2 h3
      exact ⟨_, by rw [hc], h.behind hC hS hT h.sz, .inr ⟨by rw [hc]; decide, rfl⟩⟩
  · refine (cread_no h.cat hJ (home8 h60)).mono ?_
    rintro e w' ⟨rfl, q, rfl⟩
    have hc : codeOf D P size n at_ = 703 := code_no h60
    exact ⟨_, by rw [hc], h.behind_quiet q, .inr ⟨by rw [hc]; decide, rfl⟩⟩
def PinQ (B yb cb j hb d ib mb size hh pp dd : Nat) (f : Nat → List Nat) (writes : Int) (D : Nat → Option ByteArray) (P : Nat → Nat) (H : Int → Option ByteArray) (hm dm pm : Nat) (n : Nat) (at_ : Int) (w : World) (e : Ending) (w' : World) : Prop :=
  e = .returned (.int .i64 (codeOf D P size n at_)) ∧ ∃ P', BehindQ B yb cb j hb d ib mb size hh pp dd f writes D P H hm dm pm D P' w w' ∧ ((codeOf D P size n at_ = 0 ∧ 0 ≤ at_ ∧ P' = putP P at_.toNat (P at_.toNat + 1)) ∨ (codeOf D P size n at_ ≠ 0 ∧ P' = P))
theorem qpin (h : QSt B yb cb j hb d ib mb size hh pp w dd v ring X f writes D P H hm dm pm) {n : Nat} (hB : BusyIs D P n) (at_ : Int) (hP : ∀ k, P k ≤ 100000) : Calls Try.prog 48 #[.pointer (some ⟨cb, 0, none⟩), .int .i64 at_] w (PinQ B yb cb j hb d ib mb size hh pp dd f writes D P H hm dm pm n at_ w) := by
  obtain ⟨left, hJ⟩ := h.jx
  by_cases h60 : 60 ≤ at_ ∧ at_ < 200
  · obtain ⟨k, rfl, hk⟩ := nat_of h60
    refine (cpin_any h.cat h.cst hJ (readS_none f k).symm (home8_yes hk) hk (hP k)).mono ?_
    rintro e w' ⟨v', ring', X', P', hC, hS, hT, ⟨rfl, hkr, rfl⟩ | ⟨rfl, hF, rfl⟩⟩
    · have hc : codeOf D P size n (k : Int) = 0 := code_ok hk fun h1 h2 => room_of hB hkr h1 h2 (fun l hl => hS.sub l (hl.imp id fun e => by
        unfold putP
        split
        · omega
        · exact e)) hC.cap
      exact ⟨by rw [hc], _, h.behind hC hS hT h.sz, .inl ⟨hc, by omega, by rw [Int.toNat_natCast]⟩⟩
    · obtain ⟨h1, h2, h3⟩ := full_of hB hF hS hC.nodup
      have hc : codeOf D P' size n (k : Int) = 801 := code_full hk h1 h2 h3
      exact ⟨by rw [hc], _, h.behind hC hS hT h.sz, .inr ⟨by rw [hc]; decide, rfl⟩⟩
  · refine (cpin_no h.cat hJ (home8 h60)).mono ?_
    rintro e w' ⟨rfl, q, rfl⟩
    have hc : codeOf D P size n at_ = 703 := code_no h60
    exact ⟨by rw [hc], _, h.behind_quiet q, .inr ⟨by rw [hc]; decide, rfl⟩⟩
def UnpinQ (B yb cb j hb d ib mb size hh pp dd : Nat) (f : Nat → List Nat) (writes : Int) (D : Nat → Option ByteArray) (P : Nat → Nat) (H : Int → Option ByteArray) (hm dm pm : Nat) (at_ : Int) (w : World) (e : Ending) (w' : World) : Prop :=
  ∃ c P', e = .returned (.int .i64 c) ∧ BehindQ B yb cb j hb d ib mb size hh pp dd f writes D P H hm dm pm D P' w w' ∧ ((c = 0 ∧ (∃ k : Nat, at_ = k ∧ 0 < P k ∧ P' = putP P k (P k - 1))) ∨ (c = 802 ∧ pinM P at_ = none ∧ P' = P))
theorem qunpin (h : QSt B yb cb j hb d ib mb size hh pp w dd v ring X f writes D P H hm dm pm) (at_ : Int) (hw : (Lit.int .i64 at_).wf = true) (hP : ∀ k, P k ≤ 100000) : Calls Try.prog 49 #[.pointer (some ⟨cb, 0, none⟩), .int .i64 at_] w (UnpinQ B yb cb j hb d ib mb size hh pp dd f writes D P H hm dm pm at_ w) := by
  by_cases hr : 0 ≤ at_ ∧ at_.toNat ∈ ring
  · obtain ⟨k, rfl, hk⟩ : ∃ k : Nat, at_ = k ∧ k ∈ ring := ⟨at_.toNat, by omega, hr.2⟩
    refine (cunpin_any h.cat h.cst hk (hP k)).mono ?_
    rintro e w' ⟨X', P', hC, hS, hT, ⟨rfl, h0, rfl⟩ | ⟨rfl, h0, rfl⟩⟩
    · exact ⟨_, _, rfl, h.behind hC hS hT h.sz, .inl ⟨rfl, k, rfl, h0, rfl⟩⟩
    · exact ⟨_, _, rfl, h.behind hC hS hT h.sz, .inr ⟨rfl, pinM_none h0, rfl⟩⟩
  · refine (cunpin_no h.cat hr hw).mono ?_
    rintro e w' ⟨rfl, rfl⟩
    refine ⟨_, _, rfl, ⟨kp_refl _ _, _, _, _, h⟩, .inr ⟨rfl, ?_, rfl⟩⟩
    rcases Int.lt_or_le at_ 0 with hl | hl
    · exact pinM_neg P hl
    · obtain ⟨k, rfl⟩ : ∃ k : Nat, at_ = k := ⟨at_.toNat, by omega⟩
      exact pinM_none (h.cst.out k fun e => hr ⟨hl, by simpa using e⟩).2
end
end
section
open Go.RowKit Go.Maps Go.Lib
section
variable {B yb cb j hb d ib mb size hh pp : Nat} {w w' : World} {dd : Nat} {v : Value} {ring : List Nat} {X : Nat → Hb} {f : Nat → List Nat} {writes : Int} {D : Nat → Option ByteArray} {P : Nat → Nat} {H : Int → Option ByteArray} {hm dm pm : Nat} {Dm : Nat → Option ByteArray} {Pm : Nat → Nat} {hf : Nat → List Nat}
theorem CSt.congr {R R' : Nat → ByteArray} (h : CSt ring X D P R) (hR : ∀ l ∈ ring, R l = R' l) : CSt ring X D P R' :=
  ⟨h.pins, h.dirty, fun l hl e => ⟨(h.clean l hl e).1, (h.clean l hl e).2.trans (hR l hl)⟩, h.out⟩
theorem QW.hom (h : QW B yb cb j hb d ib mb size hh pp w dd v ring X f writes D P H hm Dm dm Pm pm hf) : ∀ l ∈ ring, Home p8 l := fun l hl => by
  have := h.cat.home l hl
  unfold Home p8; simp; omega
/-- what the maps say is far from what Flush touches -/
theorem QW.flfar (h : QW B yb cb j hb d ib mb size hh pp w dd v ring X f writes D P H hm Dm dm Pm pm hf) : (∀ b T m, MapAt w b T m → b ≠ mb → ¬ FlTag ring X j d mb ib b) ∧ ¬ FlTag ring X j d mb ib yb := by
  obtain ⟨left, hJ⟩ := h.jx
  have h2 := hJ.row
  have h3 := hJ.disk.row
  have h4 := hJ.disk.img
  obtain ⟨es0, clock0, h5, _⟩ := hJ.map
  unfold JAt at h2
  constructor
  · intro b T m hM hn hi
    obtain ⟨es, clock, hbb, _⟩ := hM
    rcases hi with ⟨l, hl, e⟩ | e | e | e | e
    · rw [e, h.cat.held l hl] at hbb; cases hbb
    · rw [e, h3] at hbb; cases hbb
    · rw [e, h4] at hbb; cases hbb
    · exact hn e
    · rw [e, h2] at hbb; cases hbb
  · intro hi
    have hyy := h.play
    unfold Play8 at hyy
    rcases hi with ⟨l, hl, e⟩ | e | e | e | e
    · rw [e, h.cat.held l hl] at hyy; simp at hyy
    · rw [e, h3] at hyy; simp at hyy
    · rw [e, h4] at hyy; simp at hyy
    · rw [e, h5] at hyy; cases hyy
    · rw [e, h2] at hyy; simp at hyy
def FlushQ (B yb cb j hb d ib mb size hh pp dd : Nat) (v : Value) (ring : List Nat) (D : Nat → Option ByteArray) (P : Nat → Nat) (H : Int → Option ByteArray) (hm dm pm : Nat) (w : World) (e : Ending) (w' : World) : Prop :=
  (40 < dm ∧ e = .returned (.int .i64 702) ∧ Kp (fun _ => False) w w') ∨
  (dm ≤ 40 ∧ e = .returned (.int .i64 0) ∧ Kp (Fr B w) w w' ∧ ∃ X' f' writes', QW B yb cb j hb d ib mb size hh pp w' dd v ring X' f' writes' (fun _ => none) P H hm D dm P pm (over (hOf H) (stgN (dS D))))
theorem over_some {h0 : Nat → List Nat} {S : Int → Option ByteArray} {k : Nat} {s : ByteArray} (h : S (k : Int) = some s) : over h0 (stgN S) k = bytesOf s := by
  unfold over stgN
  rw [h]; rfl
theorem over_none {h0 : Nat → List Nat} {S : Int → Option ByteArray} {k : Nat} (h : S (k : Int) = none) : over h0 (stgN S) k = h0 k := by
  unfold over stgN
  rw [h]; rfl
theorem qflush (h : QSt B yb cb j hb d ib mb size hh pp w dd v ring X f writes D P H hm dm pm) : Calls Try.prog 28 #[.pointer (some ⟨cb, 0, none⟩)] w (FlushQ B yb cb j hb d ib mb size hh pp dd v ring D P H hm dm pm w) := by
  obtain ⟨⟨n1, n2, n3⟩, ⟨n4, n5, n6⟩, n7, n8, n9, n10⟩ := h.ne
  obtain ⟨⟨b1, b2, b3, b4⟩, ⟨b5, b6, b7⟩, b8, b9, b10⟩ := h.far
  refine (flush_any h.cat h.cst h.jx n1.symm h.rest h.sz h.hom).mono ?_
  rintro e w' ⟨ds, hsd, hmem, hway⟩
  obtain rfl := h.many (hsd.imp fun h => Nat.ne_of_lt h) hmem
  rcases hway with ⟨h40, rfl, hK⟩ | ⟨h40, hK, ⟨f', writes', X', rfl, hC, hS, hJ, hR⟩ | ⟨hc, _⟩⟩
  · exact .inl ⟨h40, rfl, hK⟩
  · obtain ⟨hmap, hy⟩ := h.flfar
    refine .inr ⟨h40, rfl, hK.imp fun i hi => ?_, X', f', writes', hJ, hR, hC, hS.congr fun l hl => ?_, (hK.block yb (blk_lt h.play) hy).trans h.play, h.home.kp hK (hmap _ _ _ h.home n3), h.dirt.kp hK (hmap _ _ _ h.dirt n5), h.pins.kp hK (hmap _ _ _ h.pins n8), (fun l s hl => by cases hl), h.ne, h.far⟩
    · obtain ⟨left, hJ0⟩ := h.jx
      have h2 := hJ0.row
      have h3 := hJ0.disk.row
      have h4 := hJ0.disk.img
      obtain ⟨es0, clock0, h5, _⟩ := hJ0.map
      unfold JAt at h2
      rcases hi with ⟨l, hl, rfl⟩ | rfl | rfl | rfl | rfl
      · exact ⟨Nat.le_trans b2 (h.cat.young.2 l hl), fun cs e => by rw [h.cat.held l hl] at e; simp at e⟩
      · exact ⟨by omega, fun cs e => by rw [h3] at e; simp at e⟩
      · exact ⟨by omega, fun cs e => by rw [h4] at e; simp at e⟩
      · exact ⟨by omega, fun cs e => by rw [h5] at e; cases e⟩
      · exact ⟨by omega, fun cs e => by rw [h2] at e; simp at e⟩
    · have h60 := h.cat.home l hl
      have e1 : f' l = over (hOf H) (stgN (dS D)) l := hR.2 l (h.hom l hl)
      rw [e1]
      cases hd : D l with
      | some s => rw [over_some (by rw [dS_nat]; exact hd), strB_bytesOf]; rfl
      | none => rw [over_none (by rw [dS_nat]; exact hd), ← h.at_home h60]; rfl
  · cases hc
def ForgetQ (B yb cb j hb d ib mb size hh pp dd : Nat) (f : Nat → List Nat) (writes : Int) (D : Nat → Option ByteArray) (P : Nat → Nat) (H : Int → Option ByteArray) (hm dm pm : Nat) (w : World) (e : Ending) (w' : World) : Prop :=
  e = .returned (.int .i64 0) ∧ BehindQ B yb cb j hb d ib mb size hh pp dd f writes D P H hm dm pm (fun _ => none) P w w'
theorem qforget (h : QSt B yb cb j hb d ib mb size hh pp w dd v ring X f writes D P H hm dm pm) : Calls Try.prog 50 #[.pointer (some ⟨cb, 0, none⟩)] w (ForgetQ B yb cb j hb d ib mb size hh pp dd f writes D P H hm dm pm w) := by
  obtain ⟨left, hJ⟩ := h.jx
  refine (forget_any h.cat h.cst hJ (fun l _ => readS_none f l) fun l hl => home8_yes (h.cat.home l hl)).mono ?_
  rintro e w' ⟨X', rfl, hC, hS, hK⟩
  exact ⟨rfl, h.behind hC hS (h.cat.onHeld_tag hK) fun l s hl => by cases hl⟩
end
end
section
open Go.RowKit Go.Maps Go.Lib
section
variable {B yb cb j hb d ib mb size hh pp : Nat} {w w' : World} {dd : Nat} {v : Value} {ring : List Nat} {X : Nat → Hb} {f : Nat → List Nat} {writes : Int} {D : Nat → Option ByteArray} {P : Nat → Nat} {H : Int → Option ByteArray} {hm dm pm : Nat} {Dm : Nat → Option ByteArray} {Pm : Nat → Nat} {hf : Nat → List Nat}
theorem QW.map_far (h : QW B yb cb j hb d ib mb size hh pp w dd v ring X f writes D P H hm Dm dm Pm pm hf) {b m : Nat} {T : Int → Option Value} (hM : MapAt w b T m) (n1 : b ≠ hb) (n2 : b ≠ mb) (hK : Kp (fun i => i = b) w w') : JX p8 w' j d mb ib f false false writes false (fun _ => none) 0 ∧ CAt w' cb j hb size v ring X ∧ Play8 w' yb cb size hh dd pp := by
  obtain ⟨left, hJ⟩ := h.jx
  have h2 := hJ.row
  have h3 := hJ.disk.row
  have h4 := hJ.disk.img
  obtain ⟨es, clock, hbb, _⟩ := hM
  unfold JAt at h2
  refine ⟨JX.kp ⟨left, hJ⟩ hK ?_ ?_ (fun e => n2 e.symm) ?_, h.cat.kp hK ?_ (fun e => n1 e.symm) (fun b2 hb2 e => ?_) (fun k hk e => ?_), (hK.block yb (blk_lt h.play) fun e => ?_).trans h.play⟩
  · rintro rfl; rw [h2] at hbb; cases hbb
  · rintro rfl; rw [h3] at hbb; cases hbb
  · rintro rfl; rw [h4] at hbb; cases hbb
  · rintro rfl; rw [h.cat.row] at hbb; cases hbb
  · obtain ⟨cs, hcs⟩ := ring_tag h.cat.rng hb2
    rw [e, hbb] at hcs; cases hcs
  · have := h.cat.held k hk
    rw [e, hbb] at this; cases this
  · have := h.play
    unfold Play8 at this
    rw [e, hbb] at this; cases this
theorem QW.setDirt {Dm' : Nat → Option ByteArray} {dm' : Nat} (h : QW B yb cb j hb d ib mb size hh pp w dd v ring X f writes D P H hm Dm dm Pm pm hf) (hM : MapAt w' dd (strM (dS Dm')) dm') (hK : Kp (fun i => i = dd) w w') : QW B yb cb j hb d ib mb size hh pp w' dd v ring X f writes D P H hm Dm' dm' Pm pm hf := by
  obtain ⟨⟨n1, n2, n3⟩, ⟨n4, n5, n6⟩, n7, n8, n9, n10⟩ := h.ne
  obtain ⟨h1, h2, h3⟩ := h.map_far h.dirt n4 n5 hK
  exact ⟨h1, h.rest, h2, h.cst, h3, h.home.kp hK fun e => n6 e.symm, hM, h.pins.kp hK fun e => n10 e, h.sz, h.ne, h.far⟩
theorem QW.setPins {Pm' : Nat → Nat} {pm' : Nat} (h : QW B yb cb j hb d ib mb size hh pp w dd v ring X f writes D P H hm Dm dm Pm pm hf) (hM : MapAt w' pp (pinM Pm') pm') (hK : Kp (fun i => i = pp) w w') : QW B yb cb j hb d ib mb size hh pp w' dd v ring X f writes D P H hm Dm dm Pm' pm' hf := by
  obtain ⟨⟨n1, n2, n3⟩, ⟨n4, n5, n6⟩, n7, n8, n9, n10⟩ := h.ne
  obtain ⟨h1, h2, h3⟩ := h.map_far h.pins n7 n8 hK
  exact ⟨h1, h.rest, h2, h.cst, h3, h.home.kp hK fun e => n9 e.symm, h.dirt.kp hK fun e => n10 e.symm, hM, h.sz, h.ne, h.far⟩
theorem QW.setHome {H' : Int → Option ByteArray} {hm' : Nat} (h : QW B yb cb j hb d ib mb size hh pp w dd v ring X f writes D P H hm Dm dm Pm pm hf) (hM : MapAt w' hh (strM H') hm') (hK : Kp (fun i => i = hh) w w') : QW B yb cb j hb d ib mb size hh pp w' dd v ring X f writes D P H' hm' Dm dm Pm pm hf := by
  obtain ⟨⟨n1, n2, n3⟩, ⟨n4, n5, n6⟩, n7, n8, n9, n10⟩ := h.ne
  obtain ⟨h1, h2, h3⟩ := h.map_far h.home n2 n3 hK
  exact ⟨h1, h.rest, h2, h.cst, h3, hM, h.dirt.kp hK fun e => n6 e, h.pins.kp hK fun e => n9 e, h.sz, h.ne, h.far⟩
/-- a new map of what is dirty -/
abbrev dirtW (w : World) (yb : Nat) : World := (w.setCell ⟨yb, 3, none⟩ (.map (some w.heap.size))).alloc (.map #[] 0)
theorem QW.newDirt (h : QW B yb cb j hb d ib mb size hh pp w dd v ring X f writes D P H hm Dm dm Pm pm hf) (hB : B ≤ w.heap.size) : QW B yb cb j hb d ib mb size hh pp (dirtW w yb) w.heap.size v ring X f writes D P H hm (fun _ => none) 0 Pm pm hf ∧ Kp (fun i => i = yb) w (dirtW w yb) := by
  have hlt := blk_lt h.play
  have h1 := set_blk h.play 3 (.map (some w.heap.size))
  have hz : (w.setCell ⟨yb, 3, none⟩ (.map (some w.heap.size))).heap.size = w.heap.size := by simp [World.setCell]
  have hK : Kp (fun i => i = yb) w (dirtW w yb) := (kp_set1 w yb 3 _).trans (kp_alloc _ _ _)
  have h3 := mapAt_made (w.setCell ⟨yb, 3, none⟩ (.map (some w.heap.size)))
  rw [hz] at h3
  obtain ⟨left, hJ⟩ := h.jx
  have hy := h.play
  unfold Play8 at hy
  have j2 := hJ.row
  have j3 := hJ.disk.row
  have j4 := hJ.disk.img
  obtain ⟨es0, clock0, j5, _⟩ := hJ.map
  obtain ⟨es1, clock1, j6, _⟩ := h.cat.map
  obtain ⟨es2, clock2, j7, _⟩ := h.home
  obtain ⟨es3, clock3, j8, _⟩ := h.pins
  have l1 := hJ.map.lt
  have l2 := h.cat.map.lt
  have l3 := h.home.lt
  have l4 := h.pins.lt
  unfold JAt at j2
  obtain ⟨⟨n1, n2, n3⟩, ⟨n4, n5, n6⟩, n7, n8, n9, n10⟩ := h.ne
  obtain ⟨f1, f2, f3, f4, f5⟩ := h.far
  refine ⟨⟨JX.kp ⟨left, hJ⟩ hK ?_ ?_ ?_ ?_, h.rest, h.cat.kp hK ?_ ?_ (fun b hb e => ?_) (fun k hk e => ?_), h.cst, (heap_alloc_old _ (.map #[] 0) (by rw [hz]; exact hlt)).trans h1, h.home.kp hK ?_, ?_, h.pins.kp hK ?_, h.sz, ⟨⟨n1, n2, n3⟩, ⟨by omega, by omega, by omega⟩, n7, n8, n9, by omega⟩, f1, f2, f3, f4, hB⟩, hK⟩
  · rintro rfl; rw [hy] at j2; simp at j2
  · rintro rfl; rw [hy] at j3; simp at j3
  · rintro rfl; rw [hy] at j5; cases j5
  · rintro rfl; rw [hy] at j4; simp at j4
  · rintro rfl; have := h.cat.row; rw [hy] at this; simp at this
  · rintro rfl; rw [hy] at j6; cases j6
  · obtain ⟨cs, hcs⟩ := ring_tag h.cat.rng hb
    rw [e, hy] at hcs; simp at hcs
  · have := h.cat.held k hk
    rw [e, hy] at this; simp at this
  · rintro rfl; rw [hy] at j7; cases j7
  · have e : strM (dS fun _ => none) = noneM := by
      funext k
      unfold strM dS noneM
      split <;> rfl
    rw [e]
    exact h3
  · rintro rfl; rw [hy] at j8; cases j8
theorem dS_put (D : Nat → Option ByteArray) (k : Nat) (s : ByteArray) : putS (dS D) (k : Int) s = dS (putD D k s) := by
  funext i
  unfold putS dS putD
  by_cases h : i = (k : Int)
  · subst h
    simp
  · rw [if_neg h]
    by_cases h0 : 0 ≤ i
    · rw [if_pos h0, if_pos h0, if_neg (by omega)]
    · rw [if_neg h0, if_neg h0]
end
end
section
open Go.RowKit Go.Maps Go.Lib
section
variable {B yb cb j hb d ib mb size hh pp : Nat} {w w' : World} {dd : Nat} {v : Value} {ring : List Nat} {X : Nat → Hb} {f : Nat → List Nat} {writes : Int} {D : Nat → Option ByteArray} {P : Nat → Nat} {H : Int → Option ByteArray} {hm dm pm : Nat} {Dm : Nat → Option ByteArray} {Pm : Nat → Nat} {hf : Nat → List Nat}
theorem pin_get (P : Nat → Nat) (k : Nat) : (pinM P (k : Int)).getD (.int .i64 0) = .int .i64 (P k : Int) := by
  rcases Nat.eq_zero_or_pos (P k) with h | h
  · rw [pinM_none h, h]; rfl
  · rw [pinM_some h]; rfl
theorem pinM_put {P : Nat → Nat} {k n : Nat} (hn : 0 < n) : putM (pinM P) (k : Int) (.int .i64 (n : Int)) = pinM (putP P k n) := by
  funext i
  unfold putM
  split
  · rename_i e
    subst e
    rw [pinM_some] <;> simp [putP, hn]
  · rename_i e
    unfold pinM putP
    by_cases h0 : 0 ≤ i
    · rw [if_neg (show ¬ i.toNat = k by omega)]
    · rw [if_neg fun e => h0 e.1, if_neg fun e => h0 e.1]
theorem pinM_del {P : Nat → Nat} {k : Nat} {u : Value} : delM (putM (pinM P) (k : Int) u) (k : Int) = pinM (putP P k 0) := by
  funext i
  unfold delM putM
  split
  · rename_i e
    subst e
    rw [pinM_none]
    simp [putP]
  · rename_i e
    unfold pinM putP
    by_cases h0 : 0 ≤ i
    · rw [if_neg (show ¬ i.toNat = k by omega)]
    · rw [if_neg fun e => h0 e.1, if_neg fun e => h0 e.1]
/-- a range's own block is turned -/
theorem QW.iter (h : QW B yb cb j hb d ib mb size hh pp w dd v ring X f writes D P H hm Dm dm Pm pm hf) {b r cnt : Nat} {T : Int → Option Value} {left : Int → Bool} (hr : RangeAt w b r T left cnt) (hK : Kp (fun i => i = r) w w') : QW B yb cb j hb d ib mb size hh pp w' dd v ring X f writes D P H hm Dm dm Pm pm hf := by
  obtain ⟨es0, clock0, since, seen, c0, _, _, _, _, hri, _⟩ := hr
  obtain ⟨left, hJ⟩ := h.jx
  have h2 := hJ.row
  have h3 := hJ.disk.row
  have h4 := hJ.disk.img
  obtain ⟨es1, clock1, h5, _⟩ := hJ.map
  obtain ⟨es2, clock2, h6, _⟩ := h.cat.map
  obtain ⟨es3, clock3, h7, _⟩ := h.home
  obtain ⟨es4, clock4, h8, _⟩ := h.dirt
  obtain ⟨es5, clock5, h9, _⟩ := h.pins
  have hy := h.play
  unfold JAt at h2
  unfold Play8 at hy
  refine ⟨JX.kp ⟨left, hJ⟩ hK ?_ ?_ ?_ ?_, h.rest, h.cat.kp hK ?_ ?_ (fun b2 hb2 e => ?_) (fun k hk e => ?_), h.cst, (hK.block yb (blk_lt h.play) fun e => ?_).trans h.play, h.home.kp hK ?_, h.dirt.kp hK ?_, h.pins.kp hK ?_, h.sz, h.ne, h.far⟩
  · rintro rfl; rw [h2] at hri; cases hri
  · rintro rfl; rw [h3] at hri; cases hri
  · rintro rfl; rw [h5] at hri; cases hri
  · rintro rfl; rw [h4] at hri; cases hri
  · rintro rfl; rw [h.cat.row] at hri; cases hri
  · rintro rfl; rw [h6] at hri; cases hri
  · obtain ⟨cs, hcs⟩ := ring_tag h.cat.rng hb2
    rw [e, hri] at hcs; cases hcs
  · have := h.cat.held k hk
    rw [e, hri] at this; cases this
  · rw [e, hri] at hy; cases hy
  · rintro rfl; rw [h7] at hri; cases hri
  · rintro rfl; rw [h8] at hri; cases hri
  · rintro rfl; rw [h9] at hri; cases hri
def FlushRel (B yb cb j hb d ib mb size hh pp dd : Nat) (v : Value) (ring : List Nat) (X : Nat → Hb) (f : Nat → List Nat) (writes : Int) (D : Nat → Option ByteArray) (P : Nat → Nat) (H : Int → Option ByteArray) (hm dm pm r : Nat) (w wr : World) : Prop :=
  ∃ left cnt hm2, RangeAt wr dd r (strM (dS D)) left cnt ∧ QW B yb cb j hb d ib mb size hh pp wr dd v ring X f writes (fun _ => none) P (mixS (dS D) H left) hm2 D dm P pm (over (hOf H) (stgN (dS D))) ∧ Kp (fun i => B ≤ i) w wr ∧ hm2 + cnt ≤ hm + dm
theorem range_map {b r cnt b2 m : Nat} {T T2 : Int → Option Value} {left : Int → Bool} (hr : RangeAt w b r T left cnt) (hM : MapAt w b2 T2 m) (e : r = b2) : False := by
  obtain ⟨es0, clock0, since, seen, c0, _, _, _, _, hri, _⟩ := hr
  obtain ⟨es1, clock1, h1, _⟩ := hM
  rw [e, h1] at hri
  cases hri
end
end
end Go.Proofs.Ytkcclaljhedmjaa

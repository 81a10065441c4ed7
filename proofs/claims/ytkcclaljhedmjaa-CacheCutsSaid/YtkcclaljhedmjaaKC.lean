/- The cache: Flush; the play: busy. No conditions. -/
import Derived.Test.YtkcclaljhedmjaaB2
import Derived.Test.YtkcclaljhedmjaaJ2
import Derived.Test.YtkcclaljhedmjaaKB
import Derived.Test.YtkcclaljhedmjaaC6
namespace Go.Proofs.Ytkcclaljhedmjaa
section
open Go.RowKit Go.Maps Go.Lib
/-- the play's row -/
def Play8 (w : World) (yb cb size hh dd pp : Nat) : Prop := w.heap[yb]? = some (.cells #[.pointer (some ⟨cb, 0, none⟩), .int .i64 (size : Int), .map (some hh), .map (some dd), .map (some pp)] 56)
/-- a map of numbers told by the blocks -/
def dS (D : Nat → Option ByteArray) : Int → Option ByteArray := fun k => if 0 ≤ k then D k.toNat else none
theorem dS_nat (D : Nat → Option ByteArray) (k : Nat) : dS D (k : Int) = D k := by simp [dS]
theorem dS_neg (D : Nat → Option ByteArray) {k : Int} (h : k < 0) : dS D k = none := by
  unfold dS
  rw [if_neg (by omega)]
def pinM (P : Nat → Nat) : Int → Option Value := fun k => if 0 ≤ k ∧ 0 < P k.toNat then some (.int .i64 (P k.toNat : Int)) else none
theorem pinM_some {P : Nat → Nat} {k : Nat} (h : 0 < P k) : pinM P (k : Int) = some (.int .i64 (P k : Int)) := by simp [pinM, h]
theorem pinM_none {P : Nat → Nat} {k : Nat} (h : P k = 0) : pinM P (k : Int) = none := by simp [pinM, h]
theorem pinM_neg (P : Nat → Nat) {k : Int} (h : k < 0) : pinM P k = none := by
  unfold pinM
  rw [if_neg (by omega)]
/-- the count of what is needed -/
def BusyIs (D : Nat → Option ByteArray) (P : Nat → Nat) (n : Nat) : Prop := ∃ xs : List Nat, xs.Nodup ∧ (∀ k, k ∈ xs ↔ ((D k).isSome = true ∨ 0 < P k)) ∧ xs.length = n
/-- the keys of a map of numbers -/
theorem map_keys {w : World} {b m : Nat} {T : Int → Option Value} (h : MapAt w b T m) (hT : ∀ k v, T k = some v → 0 ≤ k) : ∃ xs : List Nat, xs.Nodup ∧ (∀ k : Nat, k ∈ xs ↔ (T (k : Int)).isSome = true) ∧ xs.length = m := by
  obtain ⟨es, clock, hb, hs, rfl, hsz, he⟩ := h
  have hkey : ∀ x ∈ es.toList, ∃ n : Nat, x.key = .int .i64 (n : Int) ∧ T n = some x.val := fun x hx => by
    obtain ⟨n, hn, _, hv⟩ := he.there x hx
    have := hT _ _ hv
    exact ⟨n.toNat, by rw [hn, show ((n.toNat : Nat) : Int) = n by omega], by rw [show ((n.toNat : Nat) : Int) = n by omega]; exact hv⟩
  let g : MapEntry → Nat := fun x => match x.key with | .int .i64 n => n.toNat | _ => 0
  have hg : ∀ x ∈ es.toList, x.key = .int .i64 (g x : Int) ∧ T (g x : Int) = some x.val := fun x hx => by
    obtain ⟨n, hn, hv⟩ := hkey x hx
    have e : g x = n := by simp [g, hn]
    rw [e]
    exact ⟨hn, hv⟩
  refine ⟨es.toList.map g, ?_, fun k => ?_, by simp⟩
  · have hst := ((MapKept.stamped_iff es clock).1 hs).2.2
    unfold List.Nodup
    rw [List.pairwise_map]
    refine List.Pairwise.imp_of_mem ?_ hst
    intro a b ha hb hne e
    exact hne (by rw [(hg a ha).1, (hg b hb).1, e])
  · rw [List.mem_map]
    constructor
    · rintro ⟨x, hx, rfl⟩
      rw [(hg x hx).2]; rfl
    · intro hk
      obtain ⟨v, hv⟩ := Option.isSome_iff_exists.1 hk
      obtain ⟨x, hx, hxk⟩ := he.all k v hv
      refine ⟨x, hx, ?_⟩
      have := (hg x hx).1
      rw [hxk] at this
      simp only [Value.int.injEq, true_and] at this
      omega
section
variable {w : World} {yb cb size hh dd pp hm dm pm : Nat} {D : Nat → Option ByteArray} {P : Nat → Nat} {H : Int → Option ByteArray}
def PinRel (pp : Nat) (D : Nat → Option ByteArray) (P : Nat → Nat) (dm : Nat) (w : World) (r : Nat) (c : Int) (wr : World) : Prop :=
  ∃ left cnt, ∃ ys : List Nat, RangeAt wr pp r (pinM P) left cnt ∧ Kp (fun _ => False) w wr ∧ ys.Nodup ∧ (∀ k : Nat, k ∈ ys ↔ (0 < P k ∧ D k = none ∧ left (k : Int) = false)) ∧ c = ((dm + ys.length : Nat) : Int)
/-- the busy ones -/
def BusyPost (D : Nat → Option ByteArray) (P : Nat → Nat) (at_ : Int) (w : World) (e : Ending) (w' : World) : Prop :=
  ∃ n : Nat, e = .returned (.tuple #[.int .i64 (n : Int), .bool ((dS D at_).isSome || (pinM P at_).isSome)]) ∧ BusyIs D P n ∧ Kp (fun _ => False) w w'
theorem busy_end {ys : List Nat} {left : Int → Bool} (hD : MapAt w dd (strM (dS D)) dm) (hnd : ys.Nodup) (hmem : ∀ k : Nat, k ∈ ys ↔ (0 < P k ∧ D k = none ∧ left (k : Int) = false)) (hl : ∀ n, left n = false) : BusyIs D P (dm + ys.length) := by
  obtain ⟨xs, h1, h2, h3⟩ := map_keys hD fun k v hv => by
    unfold strM dS at hv
    split at hv
    · assumption
    · cases hv
  have h4 : ∀ k : Nat, k ∈ xs ↔ (D k).isSome = true := fun k => by
    rw [h2]
    unfold strM
    rw [dS_nat, Option.isSome_map]
  refine ⟨xs ++ ys, ?_, fun k => ?_, by rw [List.length_append, h3]⟩
  · rw [List.nodup_append]
    refine ⟨h1, hnd, fun a ha b hb e => ?_⟩
    subst e
    have := (h4 a).1 ha
    rw [((hmem a).1 hb).2.1] at this
    cases this
  · rw [List.mem_append, h4, hmem]
    constructor
    · rintro (h | h)
      · exact .inl h
      · exact .inr h.1
    · rintro (h | h)
      · exact .inl h
      · cases hd : D k with
        | none => exact .inr ⟨h, rfl, hl _⟩
        | some s => exact .inl rfl
theorem RangeAt.left_is {b r : Nat} {S : Int → Option Value} {left : Int → Bool} {cnt : Nat} (h : RangeAt w b r S left cnt) : w.rangeLeft b r = cnt := by
  obtain ⟨es, clock, since, seen, c0, hb, _, _, _, hr, _, hc, _⟩ := h
  simp only [World.rangeLeft, hb, hr]
  exact hc
set_option maxHeartbeats 1000000 in
set_option maxRecDepth 100000 in
theorem busy_any (hy : Play8 w yb cb size hh dd pp) (hD : MapAt w dd (strM (dS D)) dm) (hP : MapAt w pp (pinM P) pm) (hd1 : dm ≤ 1024) (hp1 : pm ≤ 1024) {at_ : Int} (hw : (Lit.int .i64 at_).wf = true) : Calls Try.prog 45 #[.pointer (some ⟨yb, 0, none⟩), .int .i64 at_] w (BusyPost D P at_ w) := by
  obtain ⟨⟨p0, p1, p2, p3, p4⟩, z0, z1, z2, z3, z4⟩ := row5 hy
  have hlen := fun ty => hD.len Try.underlying31 ty
  obtain ⟨w3, hrg, hRA, hK3, hz3⟩ := hP.range Try.underlying54
  have hrel0 : PinRel pp D P dm w w.heap.size (dm : Int) w3 := ⟨_, _, [], hRA, hK3, List.nodup_nil, fun k => by
    constructor
    · intro h; cases h
    · rintro ⟨h1, _, h2⟩
      simp [allM, pinM_some h1] at h2, by simp⟩
  have hpl : ∀ ys : List Nat, ys.Nodup → (∀ k ∈ ys, 0 < P k) → ys.length ≤ pm := fun ys h1 h2 => by
    obtain ⟨xs, g1, g2, g3⟩ := map_keys hP fun k v hv => by
      unfold pinM at hv
      split at hv
      · rename_i h; exact h.1
      · cases hv
    rw [← g3]
    exact len_le ys xs h1 fun k hk => (g2 k).2 (by rw [pinM_some (h2 k hk)]; rfl)
  go_enter Try.func45, Try.ntmps45
  go_wp2
  go_loopw [6] (fun c wr => ∃ n : Nat, c = .int .i64 n ∧ PinRel pp D P dm w w.heap.size n wr) (fun _ wr => wr.rangeLeft pp w.heap.size)
  case atStart => exact ⟨dm, rfl, hrel0⟩
  case round =>
    obtain ⟨n, rfl, left, cnt, ys, hRA, hKp, hnd, hmem, hn⟩ := hrel
    obtain ⟨⟨q0, q1, q2, q3, q4⟩, y0, y1, y2, y3, y4⟩ := row5 (show Play8 wr yb cb size hh dd pp from (hKp.block yb (blk_lt hy) fun e => e).trans hy)
    rcases hRA.next 0 with ⟨h0, hl0, hnx⟩ | ⟨kk, v, w12, cnt2, hkw, hlk, hSv, hnx, hRA2, hlt2, hK12, hz12, hen⟩
    · have hlk1 := (hD.kp hKp fun e => e).look Try.underlying31 (Try.zeroValue9 wr) hw true
      have hlk2 := (hP.kp hKp fun e => e).look Try.underlying54 (Try.zeroValue3 wr) hw true
      have hb := busy_end hD hnd hmem hl0
      rw [← Int.natCast_inj.1 hn] at hb
      have hend : ∀ x y, (dS D at_).isSome = x → (pinM P at_).isSome = y → BusyPost D P at_ w (.returned (.tuple #[.int .i64 (n : Int), .bool (x || y)])) wr := fun x y hx hy2 => ⟨n, by rw [hx, hy2], hb, hKp⟩
      cases hd : dS D at_ with
      | none =>
        rw [strM_none hd] at hlk1
        have hend2 := hend false (pinM P at_).isSome (by rw [hd]; rfl) rfl
        generalize (pinM P at_).getD _ = z1 at hlk2
        generalize (pinM P at_).isSome = z2 at *
        clear hend hb hn hmem hD hP hlen hRA
        go_wp2
        go_ret2
        exact hend2
      | some s =>
        rw [strM_some hd] at hlk1
        have hend2 := hend true (pinM P at_).isSome (by rw [hd]; rfl) rfl
        generalize (pinM P at_).getD _ = z1 at hlk2
        generalize (pinM P at_).isSome = z2 at *
        clear hend hb hn hmem hD hP hlen hRA
        go_wp2
        go_ret2
        exact hend2
    · obtain ⟨k0, rfl, hk0, rfl⟩ : ∃ k0 : Nat, kk = k0 ∧ 0 < P k0 ∧ v = .int .i64 (P k0 : Int) := by
        unfold pinM at hSv
        split at hSv
        · rename_i h
          exact ⟨kk.toNat, by omega, h.2, (Option.some.inj hSv).symm⟩
        · cases hSv
      have hK2 : Kp (fun _ => False) w w12 := hKp.own hK12 (Nat.le_refl _)
      have hlk1 := (hD.kp hK2 fun e => e).look Try.underlying31 (Try.zeroValue9 w12) hkw true
      obtain ⟨⟨i0, i1, i2, i3, i4⟩, l0, l1, l2, l3, l4⟩ := row5 (show Play8 w12 yb cb size hh dd pp from (hK2.block yb (blk_lt hy) fun e => e).trans hy)
      have hln := hRA.left_is
      have hln2 := hRA2.left_is
      have hk0n : k0 ∉ ys := fun e => by
        have := ((hmem k0).1 e).2.2
        rw [hlk] at this
        cases this
      have hnb : n ≤ 3000 := by
        have := hpl ys hnd fun k hk => ((hmem k).1 hk).1
        omega
      have hend : ∀ c : Nat, (D k0 = none → c = n + 1) → (D k0 ≠ none → c = n) → PinRel pp D P dm w w.heap.size (c : Int) w12 := fun c h1 h2 => by
        cases hd0 : D k0 with
        | none =>
          obtain rfl := h1 hd0
          refine ⟨_, _, k0 :: ys, hRA2, hK2, List.nodup_cons.2 ⟨hk0n, hnd⟩, fun k => ?_, by rw [List.length_cons]; omega⟩
          rw [List.mem_cons, hmem]
          by_cases e : k = k0
          · subst e
            simp [hd0, hk0]
          · have e2 : ((k : Int) != (k0 : Int)) = true := by simp; omega
            simp [e, e2]
        | some s =>
          obtain rfl := h2 (by rw [hd0]; simp)
          refine ⟨_, _, ys, hRA2, hK2, hnd, fun k => ?_, hn⟩
          rw [hmem]
          by_cases e : k = k0
          · subst e
            simp [hd0]
          · have e2 : ((k : Int) != (k0 : Int)) = true := by simp; omega
            simp [e2]
      cases hd0 : D k0 with
      | none =>
        have hend2 := hend (n + 1) (fun _ => rfl) (fun h => absurd hd0 h)
        rw [strM_none (by rw [dS_nat]; exact hd0)] at hlk1
        clear hend hn hmem hD hP hlen hRA hRA2 hpl
        go_wp2
        exact ⟨⟨n + 1, by simp, hend2⟩, by rw [hln, hln2]; exact hlt2⟩
      | some s =>
        have hend2 := hend n (fun h => by rw [hd0] at h; cases h) (fun _ => rfl)
        rw [strM_some (by rw [dS_nat]; exact hd0)] at hlk1
        clear hend hn hmem hD hP hlen hRA hRA2 hpl
        go_wp2
        exact ⟨⟨n, rfl, hend2⟩, by rw [hln, hln2]; exact hlt2⟩
end
end
section
open Go.RowKit Go.Maps Go.Lib
section
variable {p : Pl} {w : World} {cb j hb size d mb ib : Nat} {v : Value} {ring : List Nat} {X : Nat → Hb} {f : Nat → List Nat} {off cut over : Bool} {left writes : Int} {S : Int → Option ByteArray} {m : Nat} {D : Nat → Option ByteArray} {P : Nat → Nat} {R : Nat → ByteArray}
/-- the data as it is -/
def datX (X : Nat → Hb) : Nat → ByteArray := fun l => (X l).data
theorem CSt.flush {ds : List Nat} (h : CSt ring X D P R) (hds : ∀ l, l ∈ ds ↔ l ∈ ring ∧ (X l).dirty = true) : CSt ring (fgX X (datX X) ds) (fun _ => none) P (fun l => (D l).getD (R l)) := by
  have hd : ∀ l ∈ ring, (fgX X (datX X) ds l).dirty = false := fun l hl => by
    unfold fgX
    split
    · rfl
    · rename_i e
      cases h2 : (X l).dirty with
      | false => rfl
      | true => exact absurd ((hds l).2 ⟨hl, h2⟩) e
  have hdat : ∀ l, (fgX X (datX X) ds l).data = (X l).data := fun l => by
    unfold fgX
    split <;> rfl
  refine ⟨fun l hl => ?_, fun l hl e => ?_, fun l hl _ => ⟨rfl, ?_⟩, fun l hl => ⟨rfl, (h.out l hl).2⟩⟩
  · have := h.pins l hl
    unfold fgX
    split <;> exact this
  · rw [hd l hl] at e
    cases e
  · rw [hdat]
    cases h2 : (X l).dirty with
    | true => rw [h.dirty l hl h2]; rfl
    | false => rw [(h.clean l hl h2).1, (h.clean l hl h2).2]; rfl
theorem CSt.keys {ds : List Nat} (h : CSt ring X D P R) (hds : ∀ l, l ∈ ds ↔ l ∈ ring ∧ (X l).dirty = true) (l : Nat) : l ∈ ds ↔ (D l).isSome = true := by
  rw [hds]
  constructor
  · rintro ⟨h1, h2⟩
    rw [h.dirty l h1 h2]; rfl
  · intro hs
    have hl : l ∈ ring := Classical.byContradiction fun e => by
      rw [(h.out l e).1] at hs
      cases hs
    refine ⟨hl, ?_⟩
    cases h2 : (X l).dirty with
    | true => rfl
    | false =>
      rw [(h.clean l hl h2).1] at hs
      cases hs
theorem dS_home {k : Int} {s : ByteArray} (h : dS D k = some s) : ∃ n : Nat, k = n ∧ D n = some s := by
  unfold dS at h
  split at h
  · exact ⟨k.toNat, by omega, h⟩
  · cases h
theorem ksOf_dirty {ds : List Nat} (hsd : ds.Pairwise (· < ·)) (hmem : ∀ l, l ∈ ds ↔ (D l).isSome = true) : KsOf (dS D) ds.length ds := ⟨hsd, fun k => by rw [hmem, dS_nat], rfl⟩
theorem stg_dirty {ds : List Nat} (hsz : ∀ l s, D l = some s → s.size = 256) (hhome : ∀ l s, D l = some s → Home p l) (hl : ds.length ≤ 40) : Stg p (dS D) ds.length :=
  ⟨fun k s hk => by
    obtain ⟨n, rfl, hn⟩ := dS_home hk
    exact ⟨⟨n, rfl, hhome n s hn⟩, hsz n s hn⟩, hl⟩
/-- the cache's blocks are none of the journal's -/
theorem CAt.apart (h : CAt w cb j hb size v ring X) (hJ : JW p w j d mb ib f off cut left writes over S m) (hn : mb ≠ hb) : (cb ≠ j ∧ cb ≠ d ∧ cb ≠ mb ∧ cb ≠ ib) ∧ (hb ≠ j ∧ hb ≠ d ∧ hb ≠ mb ∧ hb ≠ ib) ∧ ∀ b, ringB v = some b → b ≠ j ∧ b ≠ d ∧ b ≠ mb ∧ b ≠ ib := by
  have h1 := h.row
  have h2 := hJ.row
  have h3 := hJ.disk.row
  have h4 := hJ.disk.img
  obtain ⟨es, clock, h5, _⟩ := hJ.map
  obtain ⟨es2, clock2, h6, _⟩ := h.map
  unfold JAt at h2
  refine ⟨⟨fun e => ?_, fun e => ?_, fun e => ?_, fun e => ?_⟩, ⟨fun e => ?_, fun e => ?_, hn.symm, fun e => ?_⟩, fun b hb => ?_⟩
  · rw [e, h2] at h1; simp at h1
  · rw [e, h3] at h1; simp at h1
  · rw [e, h5] at h1; simp at h1
  · rw [e, h4] at h1; simp at h1
  · rw [e, h2] at h6; simp at h6
  · rw [e, h3] at h6; simp at h6
  · rw [e, h4] at h6; simp at h6
  · obtain ⟨cs, h7⟩ := ring_tag h.rng hb
    refine ⟨fun e => ?_, fun e => ?_, fun e => ?_, fun e => ?_⟩
    · rw [e, h2] at h7; simp at h7
    · rw [e, h3] at h7; simp at h7
    · rw [e, h5] at h7; simp at h7
    · rw [e, h4] at h7; simp at h7
/-- the journal's blocks -/
def OnJ (j d mb ib : Nat) (i : Nat) : Prop := i = d ∨ i = ib ∨ i = mb ∨ i = j
theorem CAt.jkp {w' : World} (h : CAt w cb j hb size v ring X) (hJ : JW p w j d mb ib f off cut left writes over S m) (hn : mb ≠ hb) (hK : Kp (OnJ j d mb ib) w w') : CAt w' cb j hb size v ring X := by
  obtain ⟨⟨a1, a2, a3, a4⟩, ⟨b1, b2, b3, b4⟩, hr⟩ := h.apart hJ hn
  refine h.kp hK ?_ ?_ (fun b hb => ?_) (fun l hl => ?_)
  · rintro (e | e | e | e)
    · exact a2 e
    · exact a4 e
    · exact a3 e
    · exact a1 e
  · rintro (e | e | e | e)
    · exact b2 e
    · exact b4 e
    · exact b3 e
    · exact b1 e
  · obtain ⟨c1, c2, c3, c4⟩ := hr b hb
    rintro (e | e | e | e)
    · exact c2 e
    · exact c4 e
    · exact c3 e
    · exact c1 e
  · obtain ⟨c1, c2, c3, c4⟩ := h.far hJ l hl
    rintro (e | e | e | e)
    · exact c2 e
    · exact c4 e
    · exact c3 e
    · exact c1 e
/-- what Flush may touch -/
def FlTag (ring : List Nat) (X : Nat → Hb) (j d mb ib : Nat) (i : Nat) : Prop := OnHeld ring X i ∨ OnJ j d mb ib i
def FlushPost (p : Pl) (cb j hb size d mb ib : Nat) (v : Value) (ring : List Nat) (X : Nat → Hb) (D : Nat → Option ByteArray) (P : Nat → Nat) (R : Nat → ByteArray) (cut : Bool) (h0 : Nat → List Nat) (w : World) (e : Ending) (w' : World) : Prop :=
  ∃ ds : List Nat, ds.Pairwise (· < ·) ∧ (∀ l, l ∈ ds ↔ (D l).isSome = true) ∧
    ((40 < ds.length ∧ e = .returned (.int .i64 702) ∧ Kp (fun _ => False) w w') ∨
     (ds.length ≤ 40 ∧ Kp (FlTag ring X j d mb ib) w w' ∧
       ((∃ f' writes' X', e = .returned (.int .i64 0) ∧ CAt w' cb j hb size v ring X' ∧ CSt ring X' (fun _ => none) P (fun l => (D l).getD (R l)) ∧ JX p w' j d mb ib f' false cut writes' false (fun _ => none) 0 ∧ Rest p (headL []) f' (Ytkcclaljhedmjaa.over h0 (stgN (dS D)))) ∨
        (cut = true ∧ ∃ c f' writes', e = .returned (.int .i64 c) ∧ DX p w' d ib f' true cut writes' ∧ Cutted p headL f' h0 (stgN (dS D)) ds))))
end
end
section
open Go.RowKit Go.Maps Go.Lib
section
variable {p : Pl} {w : World} {cb j hb size d mb ib : Nat} {v : Value} {ring : List Nat} {X : Nat → Hb} {f : Nat → List Nat} {off cut over : Bool} {left writes : Int} {S : Int → Option ByteArray} {m : Nat} {D : Nat → Option ByteArray} {P : Nat → Nat} {R : Nat → ByteArray}
def FlRel (p : Pl) (j d mb ib : Nat) (f : Nat → List Nat) (cut : Bool) (left writes : Int) (D : Nat → Option ByteArray) (ds : List Nat) (w2 : World) (k : Nat) (wr : World) : Prop :=
  JW p wr j d mb ib f false cut left writes false (restrS (dS D) ds k) k ∧ Kp (fun i => i = mb) w2 wr
theorem nodup_take {ds : List Nat} {k x : Nat} (hnd : ds.Nodup) (hxk : ds[k]? = some x) : x ∉ ds.take k := fun e => by
  obtain ⟨i, hi, ei⟩ := List.getElem_of_mem e
  obtain ⟨hk2, e2⟩ := List.getElem?_eq_some_iff.1 hxk
  rw [List.getElem_take] at ei
  have hik : i < k := by simp at hi; omega
  have := (List.getElem_inj hnd).1 (ei.trans e2.symm)
  omega
set_option maxHeartbeats 2000000 in
set_option maxRecDepth 100000 in
theorem flush_any {h0 : Nat → List Nat} (h : CAt w cb j hb size v ring X) (hS : CSt ring X D P R) (hJ : JX p w j d mb ib f false cut writes false (fun _ => none) 0) (hne : mb ≠ hb) (hr : Rest p (headL []) f h0) (hsz : ∀ l s, D l = some s → s.size = 256) (hhome : ∀ l ∈ ring, Home p l) : Calls Try.prog 28 #[.pointer (some ⟨cb, 0, none⟩)] w (FlushPost p cb j hb size d mb ib v ring X D P R cut h0 w) := by
  obtain ⟨left, hJ0⟩ := hJ
  have hdirty := dirty_any h
  have hmlt := hJ0.map.lt
  have hap := h.apart hJ0 hne
  have hhl : ∀ l s, D l = some s → Home p l := fun l s hl => by
    refine hhome l (Classical.byContradiction fun e => ?_)
    rw [(hS.out l e).1] at hl
    cases hl
  go_enter Try.func28, Try.ntmps28
  go_wp2_with (go_at_call 51; refine Calls.mono hdirty ?_; rintro e w2 ⟨o, ds, rfl, hI, hsd, hmem, hK2, hnew⟩; obtain ⟨ao, c, rfl⟩ := hI.shape; rcases Nat.lt_or_ge 40 ds.length with h40 | h40; have g1 : decide ((40 : Int) < (ds.length : Int)) = true := (by simp; omega); rotate_left; have g1 : decide ((40 : Int) < (ds.length : Int)) = false := (by simp; omega))
  · have hC2 := h.same hK2
    have hcapb := hC2.cap
    have hkeys := hS.keys hmem
    have hks := ksOf_dirty hsd hkeys
    have hstg := stg_dirty (p := p) hsz hhl h40
    have hJ2 : JW p w2 j d mb ib f false cut left writes false (fun _ => none) 0 := hJ0.kp hK2 (fun e => e) (fun e => e) (fun e => e) (fun e => e)
    have hnd : ds.Nodup := hsd.imp fun h => Nat.ne_of_lt h
    have hrel0 : FlRel p j d mb ib f cut left writes D ds w2 0 w2 := ⟨by rw [restr_zero]; exact hJ2, kp_refl _ _⟩
    go_loopw [19] (fun i wr => ∃ k : Nat, i = .int .i64 k ∧ k ≤ ds.length ∧ FlRel p j d mb ib f cut left writes D ds w2 k wr) (fun i _ => ds.length - (RowKit.intOf i).toNat)
    case atStart => exact ⟨0, rfl, by omega, hrel0⟩
    case round =>
      obtain ⟨k, rfl, hk, hJr, hKr⟩ := hrel
      have hCr : CAt wr cb j hb size v ring X := hC2.kp hKr (fun e => hap.1.2.2.1 e) (fun e => hap.2.1.2.2.1 e) (fun b hb e => (hap.2.2 b hb).2.2.1 e) (fun l hl e => (h.far hJ0 l hl).2.2.1 e)
      by_cases hlt : k < ds.length
      · have g3 : decide ((k : Int) < (ds.length : Int)) = true := by simp; omega
        obtain ⟨x, hxk⟩ : ∃ x, ds[k]? = some x := ⟨_, List.getElem?_eq_getElem hlt⟩
        obtain ⟨hx, hxd⟩ := (hmem x).1 (List.mem_of_getElem? hxk)
        have hIr : RingAt wr (.slice ao ds.length c) ds := hI.kp hKr fun b hb e => by
          have := hnew b hb
          omega
        rcases hIr with ⟨_, rfl⟩ | ⟨b, o2, cap, cur, e, hbk, hbo, _, _, hget⟩
        · simp at hlt
        simp only [Value.slice.injEq] at e
        obtain ⟨rfl, -, rfl⟩ := e
        have hcell : wr.cell? ⟨b, o2 + k, none⟩ = some (.int .i64 (x : Int)) := cell_of hbk _ _ ((hget k hlt).trans (intsC_get hxk))
        have h60 := h.home x hx
        have hsx : D x = some (X x).data := hS.dirty x hx hxd
        have hs6 := hsz x _ hsx
        have hyes : homeB p.n p.fr p.bl (x : Int) = true := homeB_of ⟨x, rfl, hhome x hx⟩
        have hJd : JW p wr.drew j d mb ib f false cut left writes false (restrS (dS D) ds k) k := hJr.kp ((kp_refl (fun _ => False) wr).drew) (fun e => e) (fun e => e) (fun e => e) (fun e => e)
        have hput := put_ok hJd (.inr (by omega)) (by omega) hyes (X x).data hs6
        have hnone := restr_new (S := dS D) hnd hxk
        rw [hnone, restr_succ hxk (by rw [dS_nat]; exact hsx)] at hput
        simp only [Option.isSome_none, Bool.false_eq_true, if_false] at hput
        have hlk := (hCr.same ((kp_refl (fun _ => False) wr).drew)).map.look Try.underlying81 (Try.zeroValue84 _) (k := (x : Int)) (wf_i64 (by omega)) false
        rw [ptrM_in hx] at hlk
        simp only [Option.getD_some, Bool.false_eq_true, if_false] at hlk
        obtain ⟨⟨q0, q1, q2, q3⟩, y0, y1, y2, y3⟩ := row4 hCr.row
        obtain ⟨⟨l0, l1, l2, l3⟩, m0, m1, m2, m3⟩ := row4 (show wr.heap[(X x).blk]? = some (.cells #[_, _, _, _] 88) from hCr.held x hx)
        clear hJr hJd hJ2 hCr hnone
        go_wp2
        go_still_tail 14, (by kernel_rfl)
        change wpList _ _ _ _ _ wr.drew
        go_wp2_with (go_at_call 10; refine Calls.mono hput ?_; rintro e w3 ⟨rfl, hJ3, hK3, hz3⟩)
        exact ⟨⟨k + 1, by simp, by omega, hJ3, (hKr.drew).trans hK3⟩, by simp [RowKit.intOf]; omega⟩
      · have g3 : decide ((k : Int) < (ds.length : Int)) = false := by simp; omega
        obtain rfl : k = ds.length := by omega
        rw [restr_all hks hstg] at hJr
        have hcom := commit_all ⟨left, hJr⟩ hstg hks hr
        have hKr2 : Kp (FlTag ring X j d mb ib) w wr := (hK2.imp fun _ e => e.elim).trans (hKr.imp fun i e => .inr (.inr (.inr (.inl e))))
        have hst := hS.flush hmem
        have hfar := h.far hJ0
        have hheld := h.held
        obtain ⟨⟨q0, q1, q2, q3⟩, y0, y1, y2, y3⟩ := row4 hCr.row
        clear hdirty hrel0 hJ2 hS
        go_wp2_with (go_at_call 36; refine Calls.mono hcom ?_; rintro e w3 ⟨c3, f3, off3, writes3, over3, S3, m3, rfl, hJ3, hoc3, hK3, hway⟩; have hC3 := hCr.jkp hJr hne hK3; have hKw3 : Kp (FlTag ring X j d mb ib) w w3 := hKr2.trans (hK3.imp fun i e => .inr e); rcases hway with ⟨rfl, rfl, rfl, rfl, rfl, hR3, _⟩ | ⟨rfl, rfl | rfl, hX3⟩)
        rotate_left
        · go_ret
          exact ⟨ds, hsd, hkeys, .inr ⟨h40, hKw3, .inr ⟨hoc3 (by simp), 603, f3, writes3, rfl, hJ3.dx, hX3⟩⟩⟩
        all_goals
          have n1 : ¬ OnHeld ring X j := by rintro ⟨l, hl, e⟩; exact (hfar l hl).1 e.symm
          have n2 : ¬ OnHeld ring X d := by rintro ⟨l, hl, e⟩; exact (hfar l hl).2.1 e.symm
          have n3 : ¬ OnHeld ring X mb := by rintro ⟨l, hl, e⟩; exact (hfar l hl).2.2.1 e.symm
          have n4 : ¬ OnHeld ring X ib := by rintro ⟨l, hl, e⟩; exact (hfar l hl).2.2.2 e.symm
        all_goals
          have hEnd : ∀ w', CAt w' cb j hb size v ring (fgX X (datX X) ds) → Kp (OnHeld ring X) w3 w' → FlushPost p cb j hb size d mb ib v ring X D P R cut h0 w (.returned (.int .i64 0)) w' := fun w' hC' hK' => by
            refine ⟨ds, hsd, hkeys, .inr ⟨h40, hKw3.trans (hK'.imp fun i e => .inl e), ?_⟩⟩
            first
              | exact .inl ⟨f3, _, _, rfl, hC', hst, hJ3.kp hK' n1 n2 n3 n4, hR3⟩
              | exact .inr ⟨hoc3 (by simp), 0, f3, writes3, rfl, hJ3.dx.kp hK' n2 n4, hX3⟩
        all_goals
          have hI3 : RingAt w3 (.slice ao ds.length c) ds := (hI.kp hKr fun b hb e => (by have := hnew b hb; omega)).kp hK3 fun b hb e => by
            have h1 := hnew b hb
            have h2 := blk_lt hJ0.row
            have h3 := blk_lt hJ0.disk.row
            have h4 := blk_lt hJ0.disk.img
            rcases e with e | e | e | e <;> omega
          have hrel3 : FgRel cb j hb size v ring X (datX X) ds w3 0 w3 := ⟨by rw [List.take_zero, fgX_nil]; exact hC3, kp_refl _ _⟩
          clear hJ3 hK3 hKw3 hKr2 hJr hKr hcom hst hoc3
          go_loopw [52] (fun i wr => ∃ k : Nat, i = .int .i64 k ∧ k ≤ ds.length ∧ FgRel cb j hb size v ring X (datX X) ds w3 k wr) (fun i _ => ds.length - (RowKit.intOf i).toNat)
          case atStart => exact ⟨0, rfl, by omega, hrel3⟩
          case round =>
            obtain ⟨k, rfl, hk, hr2⟩ := hrel
            have hC := hr2.1
            by_cases hlt : k < ds.length
            · have g3 : decide ((k : Int) < (ds.length : Int)) = true := by simp; omega
              obtain ⟨x, hxk⟩ : ∃ x, ds[k]? = some x := ⟨_, List.getElem?_eq_getElem hlt⟩
              obtain ⟨hx, hxd⟩ := (hmem x).1 (List.mem_of_getElem? hxk)
              have hxn : x ∉ ds.take k := nodup_take hnd hxk
              have hIr : RingAt wr (.slice ao ds.length c) ds := hI3.kp hr2.2 fun b hb => by
                rintro ⟨l, hl, e⟩
                have := hnew b hb
                have := blk_lt (hheld l hl)
                omega
              rcases hIr with ⟨_, rfl⟩ | ⟨b, o2, cap, cur, e, hbk, hbo, _, _, hget⟩
              · simp at hlt
              simp only [Value.slice.injEq] at e
              obtain ⟨rfl, -, rfl⟩ := e
              have hcell : wr.cell? ⟨b, o2 + k, none⟩ = some (.int .i64 (x : Int)) := cell_of hbk _ _ ((hget k hlt).trans (intsC_get hxk))
              have h60 := h.home x hx
              have hblk : (fgX X (datX X) (ds.take k) x).blk = (X x).blk := fgX_blk X _ _ x
              have hlk := hC.map.look Try.underlying81 (Try.zeroValue84 _) (k := (x : Int)) (wf_i64 (by omega)) false
              rw [ptrM_in hx, hblk] at hlk
              simp only [Option.getD_some, Bool.false_eq_true, if_false] at hlk
              obtain ⟨⟨q0, q1, q2, q3⟩, y0, y1, y2, y3⟩ := row4 hC.row
              have hrow := hC.held x hx
              rw [hblk] at hrow
              obtain ⟨⟨l0, l1, l2, l3⟩, m0, m1, m2, m3⟩ := row4 (show wr.heap[(X x).blk]? = some (.cells #[_, _, _, _] 88) from hrow)
              have hend : FgRel cb j hb size v ring X (datX X) ds w3 (k + 1) (wr.setCell ⟨(X x).blk, 1, none⟩ (.bool false)) := by
                have e : fgX X (datX X) (ds.take k) x = X x := by
                  unfold fgX
                  rw [if_neg hxn]
                refine hr2.next hxk hx hxn ?_ (kp_set1 _ _ _ _)
                have := hC.turn hx (x := { fgX X (datX X) (ds.take k) x with data := datX X x, dirty := false }) rfl (w' := wr.setCell ⟨(X x).blk, 1, none⟩ (.bool false)) ?_ ?_
                · exact this
                · rw [hblk]
                  have := set_blk hrow 1 (.bool false)
                  rw [e] at this ⊢
                  exact this
                · rw [hblk]
                  exact kp_set1 _ _ _ _
              clear hEnd hr2 hC
              go_wp2
              exact ⟨⟨k + 1, by simp, by omega, hend⟩, by simp [RowKit.intOf]; omega⟩
            · have g3 : decide ((k : Int) < (ds.length : Int)) = false := by simp; omega
              obtain rfl : k = ds.length := by omega
              have hC2 := hr2.1
              rw [List.take_length] at hC2
              have hend := hEnd _ hC2 hr2.2
              clear hEnd hr2 hC
              go_wp2
              go_ret
              exact hend
  · go_ret
    exact ⟨ds, hsd, hS.keys hmem, .inl ⟨h40, rfl, hK2⟩⟩
end
end
section
open Go.RowKit Go.Maps Go.Lib
section
variable {p : Pl} {w : World} {cb j hb size d mb ib : Nat} {v : Value} {ring : List Nat} {X : Nat → Hb} {f : Nat → List Nat} {off cut over : Bool} {left writes : Int} {S : Int → Option ByteArray} {m : Nat} {D : Nat → Option ByteArray} {P : Nat → Nat} {R : Nat → ByteArray}
def SomeInt (w : World) (e : Ending) (w' : World) : Prop := ∃ c, e = .returned (.int .i64 c) ∧ Kp (fun _ => False) w w'
set_option maxHeartbeats 2000000 in
set_option maxRecDepth 100000 in
theorem flush_off (h : CAt w cb j hb size v ring X) (hJ : JW p w j d mb ib f true cut left writes false S m) : Calls Try.prog 28 #[.pointer (some ⟨cb, 0, none⟩)] w (SomeInt w) := by
  have hdirty := dirty_any h
  go_enter Try.func28, Try.ntmps28
  go_wp2_with (go_at_call 51; refine Calls.mono hdirty ?_; rintro e w2 ⟨o, ds, rfl, hI, hsd, hmem, hK2, hnew⟩; obtain ⟨ao, c, rfl⟩ := hI.shape; rcases Nat.lt_or_ge 40 ds.length with h40 | h40; have g1 : decide ((40 : Int) < (ds.length : Int)) = true := (by simp; omega); rotate_left; have g1 : decide ((40 : Int) < (ds.length : Int)) = false := (by simp; omega))
  · go_loopw [19] (fun i wr => i = .int .i64 0 ∧ wr = w2) (fun i _ => 1)
    case atStart => exact ⟨rfl, rfl⟩
    case round =>
      obtain ⟨rfl, rfl⟩ := hrel
      have hC := h.same hK2
      have hJ2 : JW p wr j d mb ib f true cut left writes false S m := hJ.kp hK2 (fun e => e) (fun e => e) (fun e => e) (fun e => e)
      by_cases hlt : 0 < ds.length
      · have g3 : decide ((0 : Int) < (ds.length : Int)) = true := by simp; omega
        have g4 : decide (0 < ds.length) = true := by simp; omega
        obtain ⟨x, hxk⟩ : ∃ x, ds[0]? = some x := ⟨_, List.getElem?_eq_getElem hlt⟩
        obtain ⟨hx, hxd⟩ := (hmem x).1 (List.mem_of_getElem? hxk)
        rcases hI with ⟨_, rfl⟩ | ⟨b, o2, cap, cur, e, hbk, hbo, _, _, hget⟩
        · simp at hlt
        simp only [Value.slice.injEq] at e
        obtain ⟨rfl, -, rfl⟩ := e
        have hcell : wr.cell? ⟨b, o2, none⟩ = some (.int .i64 (x : Int)) := cell_of hbk _ _ ((hget 0 hlt).trans (intsC_get hxk))
        have h60 := h.home x hx
        have hJd : JW p wr.drew j d mb ib f true cut left writes false S m := hJ2.kp ((kp_refl (fun _ => False) wr).drew) (fun e => e) (fun e => e) (fun e => e) (fun e => e)
        have hput := put_off (at_ := (x : Int)) hJd rfl (X x).data
        have hlk := (hC.same ((kp_refl (fun _ => False) wr).drew)).map.look Try.underlying81 (Try.zeroValue84 _) (k := (x : Int)) (wf_i64 (by omega)) false
        rw [ptrM_in hx] at hlk
        simp only [Option.getD_some, Bool.false_eq_true, if_false] at hlk
        obtain ⟨⟨q0, q1, q2, q3⟩, y0, y1, y2, y3⟩ := row4 hC.row
        obtain ⟨⟨l0, l1, l2, l3⟩, m0, m1, m2, m3⟩ := row4 (show wr.heap[(X x).blk]? = some (.cells #[_, _, _, _] 88) from hC.held x hx)
        clear hJ2 hJd hC hJ
        go_wp2
        go_still_tail 14, (by kernel_rfl)
        change wpList _ _ _ _ _ wr.drew
        go_wp2_with (go_at_call 10; refine Calls.mono hput ?_; rintro e w3 ⟨rfl, rfl⟩)
        go_ret
        exact ⟨603, rfl, hK2.drew⟩
      · obtain rfl : ds = [] := List.eq_nil_of_length_eq_zero (by omega)
        have hcom := commit_off hJ2 rfl
        obtain ⟨⟨q0, q1, q2, q3⟩, y0, y1, y2, y3⟩ := row4 hC.row
        go_wp2_with (go_at_call 36; refine Calls.mono hcom ?_; rintro e w3 ⟨rfl, rfl⟩)
        go_ret
        exact ⟨603, rfl, hK2⟩
  · go_ret
    exact ⟨702, rfl, hK2⟩
end
end
end Go.Proofs.Ytkcclaljhedmjaa

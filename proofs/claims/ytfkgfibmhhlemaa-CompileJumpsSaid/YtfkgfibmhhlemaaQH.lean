/- CompileTrees: a part of the proof (H0 H1 H2 H3 H4 H5 H6 H7 H8 H9). No conditions. -/
import Derived.Test.YtfkgfibmhhlemaaQG
namespace Go.Proofs.Ytfkgfibmhhlemaa
open Go.RowKit Go.Maps Go.WideMaps
mutual
/-- kinds are 64-bit numbers -/
def Nd.ok : Nd → Prop
  | .mk k _ _ ks _ => (Lit.int .i64 k).wf = true ∧ okL ks
def okL : List Nd → Prop
  | [] => True
  | n :: r => n.ok ∧ okL r
end
theorem okL_at : ∀ (ks : List Nd) (i : Nat) (h : i < ks.length), okL ks → ks[i].ok
  | _n :: _, 0, _, h => h.1
  | _ :: r, i + 1, hi, h => okL_at r i (Nat.lt_of_succ_lt_succ hi) h.2
/-- the maker at work -/
structure Mk (R : Nat → Prop) (sl : List (List UInt8)) (β : Bool) (w : World) (B b : Nat) (v : Value) (n : Nat) (xs : List Value) (v2 : Value) : Prop where
  em : Em w B b v n xs
  rB : ∀ k, R k → k < B
  bb : B ≤ b
  names : w.cell? ⟨b, 1, none⟩ = some v2
  nown : w.ownsRow B 9 1 v2 sl.length (sl.map strV)
  nne : v2.ownBlock ≠ some b
  apart : ∀ k, v.ownBlock = some k → v2.ownBlock ≠ some k
  bad : w.cell? ⟨b, 2, none⟩ = some (.bool β)
  z1 : w.frozen? ⟨b, 1, none⟩ = false
  z2 : w.frozen? ⟨b, 2, none⟩ = false
abbrev MMay (b : Nat) (v v2 : Value) : Nat → Prop := fun k => k = b ∨ v.ownBlock = some k ∨ v2.ownBlock = some k
structure MSteps (R : Nat → Prop) (sl' : List (List UInt8)) (β' : Bool) (w : World) (B b : Nat) (v : Value) (n : Nat) (xs : List Value) (v2 : Value) (new : List Value) (v' v2' : Value) (w' : World) : Prop where
  st : Mk R sl' β' w' B b v' (n + cnt new) (xs ++ new) v2'
  len : new.length = cnt new * 4
  one : ∀ u ∈ new, u.oneCell' = true
  kept : Kp (MMay b v v2) w w'
  fr1 : ∀ k, v'.ownBlock = some k → v.ownBlock = some k ∨ w.heap.size ≤ k
  fr2 : ∀ k, v2'.ownBlock = some k → v2.ownBlock = some k ∨ w.heap.size ≤ k
section
variable {R : Nat → Prop} {sl sl1 sl2 : List (List UInt8)} {β β1 β2 : Bool} {w w1 w2 : World} {B b n : Nat} {v v1 v' : Value} {xs new new2 : List Value} {v2 v3 v4 : Value}
theorem Mk.lt (h : Mk R sl β w B b v n xs v2) : b < w.heap.size := h.em.lt
theorem Mk.bs (h : Mk R sl β w B b v n xs v2) : B ≤ w.heap.size := Nat.le_trans h.bb (Nat.le_of_lt h.lt)
theorem Mk.nlt (h : Mk R sl β w B b v n xs v2) {k : Nat} (e : v2.ownBlock = some k) : k < w.heap.size := (h.nown.lt k e).2
theorem Mk.vlt (h : Mk R sl β w B b v n xs v2) {k : Nat} (e : v.ownBlock = some k) : k < w.heap.size := (h.em.own.lt k e).2
theorem Mk.rblock (h : Mk R sl β w B b v n xs v2) (hk : Kp (MMay b v v2) w w1) : ∀ k, R k → w1.heap[k]? = w.heap[k]? := fun k hr => by
  have hB := h.rB k hr
  refine hk.block k (Nat.lt_of_lt_of_le hB h.bs) fun e => ?_
  rcases e with e | e | e
  · have := h.bb; omega
  · have := (h.em.own.lt k e).1; omega
  · have := (h.nown.lt k e).1; omega
theorem Mk.kp (h : Mk R sl β w B b v n xs v2) (hk : Kp (fun _ => False) w w1) : Mk R sl β w1 B b v n xs v2 := by
  have hb := hk.block b h.lt (fun e => e)
  exact ⟨h.em.kp hk, h.rB, h.bb, (World.cell?_of_block hb).trans h.names, own_heap h.nown (Nat.le_refl _) fun k e => hk.block k (h.nlt e) (fun e => e), h.nne, h.apart, (World.cell?_of_block hb).trans h.bad, (World.frozen?_of_block hb).trans h.z1, (World.frozen?_of_block hb).trans h.z2⟩
theorem MSteps.nil (h : Mk R sl β w B b v n xs v2) : MSteps R sl β w B b v n xs v2 [] v v2 w :=
  ⟨by simpa [cnt] using h, rfl, by simp, kp_refl _ _, fun _ h => .inl h, fun _ h => .inl h⟩
theorem MSteps.kp (h : Mk R sl β w B b v n xs v2) (hk : Kp (fun _ => False) w w1) : MSteps R sl β w B b v n xs v2 [] v v2 w1 :=
  ⟨by simpa [cnt] using h.kp hk, rfl, by simp, hk.weak, fun _ h => .inl h, fun _ h => .inl h⟩
theorem MSteps.trans (h1 : MSteps R sl1 β1 w B b v n xs v2 new v1 v3 w1) (h2 : MSteps R sl2 β2 w1 B b v1 (n + cnt new) (xs ++ new) v3 new2 v' v4 w2) : MSteps R sl2 β2 w B b v n xs v2 (new ++ new2) v' v4 w2 := by
  have hc : cnt (new ++ new2) = cnt new + cnt new2 := cnt_add h1.len
  refine ⟨?_, by rw [hc, List.length_append, h1.len, h2.len, Nat.add_mul], fun u hu => (List.mem_append.1 hu).elim (h1.one u) (h2.one u), ?_, fun k hk => ?_, fun k hk => ?_⟩
  · have := h2.st
    rwa [hc, ← Nat.add_assoc, ← List.append_assoc]
  · refine ⟨h2.kept.os.trans h1.kept.os, h2.kept.tape.trans h1.kept.tape, h2.kept.output.trans h1.kept.output, Nat.le_trans h1.kept.size h2.kept.size, fun k hk hS => (h2.kept.block k (Nat.lt_of_lt_of_le hk h1.kept.size) fun h => ?_).trans (h1.kept.block k hk hS)⟩
    rcases h with h | h | h
    · exact hS (.inl h)
    · rcases h1.fr1 k h with h | h
      · exact hS (.inr (.inl h))
      · omega
    · rcases h1.fr2 k h with h | h
      · exact hS (.inr (.inr h))
      · omega
  · rcases h2.fr1 k hk with h | h
    · exact h1.fr1 k h
    · exact .inr (Nat.le_trans h1.kept.size h)
  · rcases h2.fr2 k hk with h | h
    · exact h1.fr2 k h
    · exact .inr (Nat.le_trans h1.kept.size h)
/-- the same, told from an earlier world -/
theorem MSteps.base {w0 : World} (hk : Kp (fun _ => False) w0 w) (h : MSteps R sl1 β1 w B b v n xs v2 new v1 v3 w1) : MSteps R sl1 β1 w0 B b v n xs v2 new v1 v3 w1 :=
  ⟨h.st, h.len, h.one, ⟨h.kept.os.trans hk.os, h.kept.tape.trans hk.tape, h.kept.output.trans hk.output, Nat.le_trans hk.size h.kept.size, fun k hk1 hS => (h.kept.block k (Nat.lt_of_lt_of_le hk1 hk.size) hS).trans (hk.block k hk1 (fun e => e))⟩,
    fun k e => (h.fr1 k e).imp id fun h => Nat.le_trans hk.size h, fun k e => (h.fr2 k e).imp id fun h => Nat.le_trans hk.size h⟩
theorem MSteps.ones (h : MSteps R sl1 β1 w B b v n xs v2 new v1 v3 w1) (hx : ∀ u ∈ xs, u.oneCell' = true) : ∀ u ∈ xs ++ new, u.oneCell' = true := fun u hu => (List.mem_append.1 hu).elim (hx u) (h.one u)
/-- an instruction -/
theorem mput_one (h : Mk R sl β w B b v n xs v2) (hs : n + 1 ≤ 3518437208883) (op arg : Int) (num : Nat) (tx : ByteArray) :
    Calls Try.prog 21 #[pt b 0, .agg #[.int .i64 op, .int .i64 arg, .float .f64 num, .string tx]] w fun e w' => e = .returned (.int .i64 n) ∧ ∃ v', MSteps R sl β w B b v n xs v2 (ins op arg (.float .f64 num) tx) v' v2 w' :=
  (mput_any B b v n xs op arg (.float .f64 num) tx w h.bs h.em rfl (room1 (m := 0) hs) (room2 (m := 0) hs)).mono fun e w' hp => ⟨hp.1, by
    obtain ⟨_, v', hE, hc, hf, hk, hfr⟩ := hp.2
    have hnb : ∀ k, v2.ownBlock = some k → w'.heap[k]? = w.heap[k]? := fun k e => hk.block k (h.nlt e) fun e' => by
      rcases e' with e' | e'
      · exact h.nne (by rw [e, e'])
      · exact h.apart k e' e
    refine ⟨v', ⟨by rw [cnt_ins]; exact hE, h.rB, h.bb, (hc 1 (by decide)).trans h.names, own_heap h.nown (Nat.le_refl _) hnb, h.nne, fun k e e2 => ?_, (hc 2 (by decide)).trans h.bad, (hf 1).trans h.z1, (hf 2).trans h.z2⟩, by rw [cnt_ins]; simp, one_ins _ _ _ _, ⟨hk.os, hk.tape, hk.output, hk.size, fun k h1 h2 => hk.block k h1 fun e => h2 (e.elim .inl fun e => .inr (.inl e))⟩, hfr, fun _ h => .inl h⟩
    rcases hfr k e with e' | e'
    · exact h.apart k e' e2
    · have := h.nlt e2; omega⟩
/-- the mark -/
theorem MSteps.mark (h : Mk R sl β w B b v n xs v2) (β' : Bool) : MSteps R sl β' w B b v n xs v2 [] v v2 (w.setCell ⟨b, 2, none⟩ (.bool β')) := by
  have ho : ∀ k, k ≠ b → (w.setCell ⟨b, 2, none⟩ (.bool β')).heap[k]? = w.heap[k]? := fun k hk => by simp [World.setCell, Array.getElem?_modify, hk.symm]
  refine ⟨⟨⟨?_, ?_, ?_, h.em.ne⟩, h.rB, h.bb, ?_, ?_, h.nne, h.apart, ?_, ?_, ?_⟩, rfl, by simp, ⟨rfl, rfl, rfl, by simp [World.setCell], fun k _ hS => ho k fun e => hS (.inl e)⟩, fun _ h => .inl h, fun _ h => .inl h⟩
  · exact (World.cell?_setCell_other _ _ _ _ (by simp)).trans h.em.cell
  · rw [World.frozen?_setCell]; exact h.em.fz
  · simp only [List.append_nil]
    exact own_heap h.em.own (Nat.le_refl _) fun k e => ho k fun e2 => h.em.ne (by rw [e, e2])
  · exact (World.cell?_setCell_other _ _ _ _ (by simp)).trans h.names
  · exact own_heap h.nown (Nat.le_refl _) fun k e => ho k fun e2 => h.nne (by rw [e, e2])
  · exact World.cell?_setCell_same _ _ _ h.bad
  · rw [World.frozen?_setCell]; exact h.z1
  · rw [World.frozen?_setCell]; exact h.z2
end
def RelE (o : Option (List Value)) (new : List Value) (β β' : Bool) : Prop := (β = true → β' = true) ∧ match o with
  | some c => new = c ∧ β' = β
  | none => β' = true
/-- what an expression does to the maker -/
def MLaid (R : Nat → Prop) (sl : List (List UInt8)) (β : Bool) (w : World) (B b : Nat) (v : Value) (n : Nat) (xs : List Value) (v2 : Value) (m : Nat) (o : Option (List Value)) (w' : World) : Prop :=
  ∃ new β' v', MSteps R sl β' w B b v n xs v2 new v' v2 w' ∧ cnt new ≤ m ∧ RelE o new β β'
def MExprOk (nd : Nd) : Prop := ∀ (R : Nat → Prop) (sl : List (List UInt8)) (β : Bool) (w : World) (B b : Nat) (v : Value) (n : Nat) (xs : List Value) (v2 V : Value),
  Mk R sl β w B b v n xs v2 → nd.ok → NodeAt R w nd V → sl.length ≤ 9223372036854775807 → n + nd.wt + 1 ≤ 3518437208883 →
  Calls Try.prog 41 #[pt b 0, V] w fun e w' => e = .returned (.tuple #[]) ∧ MLaid R sl β w B b v n xs v2 nd.wt (exprC sl nd) w'
end Go.Proofs.Ytfkgfibmhhlemaa
namespace Go.Proofs.Ytfkgfibmhhlemaa
open Go.RowKit Go.Maps Go.WideMaps
theorem RelE.refl (β : Bool) : RelE (some []) [] β β := ⟨fun h => h, rfl, rfl⟩
theorem RelE.step {sl : List (List UInt8)} {ks : List Nd} {k : Nat} (hk : k < ks.length) {new new2 : List Value} {β β1 β2 : Bool} (h1 : RelE (exprL sl (ks.take k)) new β β1) (h2 : RelE (exprC sl ks[k]) new2 β1 β2) : RelE (exprL sl (ks.take (k + 1))) (new ++ new2) β β2 := by
  refine ⟨fun h => h2.1 (h1.1 h), ?_⟩
  rw [exprL_take sl ks k hk]
  cases ha : exprL sl (ks.take k) with
  | none =>
    have := h1.2
    rw [ha] at this
    exact h2.1 this
  | some c =>
    have e1 := h1.2
    rw [ha] at e1
    obtain ⟨rfl, rfl⟩ := e1
    have e2 := h2.2
    cases hb : exprC sl ks[k] with
    | none => rw [hb] at e2; exact e2
    | some d => rw [hb] at e2; obtain ⟨rfl, rfl⟩ := e2; exact ⟨rfl, rfl⟩
/-- the last instruction behind the kids: the mark is set where it is no good -/
theorem RelE.last {o : Option (List Value)} {new i : List Value} {β β1 : Bool} (h1 : RelE o new β β1) (good : Bool) {β2 : Bool} (hβ : β2 = (β1 || !good)) {o2 : Option (List Value)} (ho : o2 = bif good then o.map (· ++ i) else none) : RelE o2 (new ++ i) β β2 := by
  subst ho hβ
  refine ⟨fun h => by rw [h1.1 h]; rfl, ?_⟩
  cases good with
  | false => simp
  | true =>
    cases o with
    | none => have := h1.2; simp at this; simp [this]
    | some c => obtain ⟨e1, e2⟩ := h1.2; subst e1; subst e2; exact ⟨rfl, by simp⟩
section
variable {R : Nat → Prop} {sl : List (List UInt8)} {β : Bool} {w : World} {B b n : Nat} {v : Value} {xs : List Value} {v2 : Value}
theorem MLaid.base {w0 : World} {m : Nat} {o : Option (List Value)} {w' : World} (hk : Kp (fun _ => False) w0 w) (h : MLaid R sl β w B b v n xs v2 m o w') : MLaid R sl β w0 B b v n xs v2 m o w' := by
  obtain ⟨new, β', v', h1, h2, h3⟩ := h
  exact ⟨new, β', v', h1.base hk, h2, h3⟩
structure KidsL (R : Nat → Prop) (sl : List (List UInt8)) (β : Bool) (w : World) (B b : Nat) (v : Value) (n : Nat) (xs : List Value) (v2 : Value) (K : Int) (t : ByteArray) (x : Nat) (ao : Option Addr) (cap : Nat) (a : Int) (ks : List Nd) (S : Nat → World → Prop) : Prop where
  aos : ∀ k, k < ks.length → ∃ kb ko, ao = some ⟨kb, ko, none⟩
  s0 : ∀ wi, Kp (fun _ => False) (Wb w K t x (.slice ao ks.length cap) a) wi → S 0 wi
  bx : ∀ k wr, S k wr → Boxed wr w.heap.size K t x (.slice ao ks.length cap)
  kid : ∀ k wr kb ko, ao = some ⟨kb, ko, none⟩ → k < ks.length → S k wr → ∃ c0 c1 c2 c3 c4, wr.cell? ⟨kb, ko + k * 5, none⟩ = some c0 ∧ wr.cell? ⟨kb, ko + k * 5 + 1, none⟩ = some c1 ∧ wr.cell? ⟨kb, ko + k * 5 + 2, none⟩ = some c2 ∧ wr.cell? ⟨kb, ko + k * 5 + 3, none⟩ = some c3 ∧ wr.cell? ⟨kb, ko + k * 5 + 4, none⟩ = some c4 ∧
      Calls Try.prog 41 #[pt b 0, .agg #[c0, c1, c2, c3, c4]] wr fun e w' => e = .returned (.tuple #[]) ∧ S (k + 1) w'
abbrev LoopS (R : Nat → Prop) (sl : List (List UInt8)) (β : Bool) (w : World) (B b : Nat) (v : Value) (n : Nat) (xs : List Value) (v2 : Value) (K : Int) (t : ByteArray) (x : Nat) (ao : Option Addr) (cap : Nat) (a : Int) (ks : List Nd) (k : Nat) (wr : World) : Prop :=
  MLaid R sl β (Wb w K t x (.slice ao ks.length cap) a) B b v n xs v2 (wtL (ks.take k)) (exprL sl (ks.take k)) wr
theorem boxed_kept {K : Int} {t : ByteArray} {x : Nat} {S : Value} {a : Int} {wr : World} (hM : Mk R sl β w B b v n xs v2) (hk : Kp (MMay b v v2) (Wb w K t x S a) wr) : Boxed wr w.heap.size K t x S := by
  have hb : wr.heap[w.heap.size]? = some (.cells #[.int .i64 K, .string t, .float .f64 x, S, .int .i64 a] 25) := (hk.block _ (by simp) fun e => by
    rcases e with e | e | e
    · have := hM.lt; omega
    · have := hM.vlt e; omega
    · have := hM.nlt e; omega).trans (heap_alloc_new w _)
  exact ⟨cell_of hb 0 _ rfl, cell_of hb 1 _ rfl, cell_of hb 2 _ rfl, cell_of hb 3 _ rfl⟩
theorem kids_loop {K : Int} {t : ByteArray} {x : Nat} {ao : Option Addr} {cap : Nat} {a : Int} {ks : List Nd} (hM : Mk R sl β w B b v n xs v2) (ih : ∀ i (h : i < ks.length), MExprOk ks[i]) (hok : okL ks) (hlen : SlAt ks.length (.slice ao ks.length cap)) (hkids : KidsAt R w ks (.slice ao ks.length cap) 0)
    (hsl : sl.length ≤ 9223372036854775807) (hs : n + wtL ks + 1 ≤ 3518437208883) : KidsL R sl β w B b v n xs v2 K t x ao cap a ks (LoopS R sl β w B b v n xs v2 K t x ao cap a ks) := by
  have hk0 := kp_alloc w (.cells #[.int .i64 K, .string t, .float .f64 x, .slice ao ks.length cap, .int .i64 a] 25)
  have hM' := hM.kp hk0
  refine ⟨fun k hk => ?_, fun wi hk => ?_, fun k wr hS => ?_, fun k wr kb ko hao hk hS => ?_⟩
  · rcases hlen with ⟨h0, _⟩ | ⟨kb, ko, cap', e, _⟩
    · omega
    · injection e with e; exact ⟨kb, ko, e⟩
  · refine ⟨[], β, v, MSteps.kp hM' hk, by simp [cnt], ?_⟩
    rw [List.take_zero, exprL]
    exact RelE.refl β
  · obtain ⟨new, β', v', hst, _⟩ := hS
    exact boxed_kept hM hst.kept
  · obtain ⟨new, β1, v1, hst, hcn, hrel⟩ := hS
    subst hao
    have hblk : ∀ j, R j → wr.heap[j]? = w.heap[j]? := fun j hj => (hM'.rblock hst.kept j hj).trans (hk0.block j (Nat.lt_of_lt_of_le (hM.rB j hj) hM.bs) fun e => e)
    obtain ⟨c0, c1, c2, c3, c4, ⟨b', o', n', cap', e, hRb, h0, h1, h2, h3, h4⟩, hnd⟩ := KidsAt.at k hk hkids
    injection e with e1 e2 e3; injection e1 with e1; injection e1 with e4 e5; subst e4; subst e5
    rw [Nat.zero_add] at h0 h1 h2 h3 h4
    have hb := hblk _ hRb
    refine ⟨c0, c1, c2, c3, c4, (World.cell?_of_block hb).trans h0, (World.cell?_of_block hb).trans h1, (World.cell?_of_block hb).trans h2, (World.cell?_of_block hb).trans h3, (World.cell?_of_block hb).trans h4, ?_⟩
    have hwt := wtL_take ks k hk
    refine (ih k hk R sl β1 wr B b v1 (n + cnt new) (xs ++ new) v2 _ hst.st (okL_at ks k hk hok) (hnd.kept hblk) hsl (by omega)).mono fun e w2 ⟨he, new2, β2, v3, hst2, hc2, hrel2⟩ => ⟨he, new ++ new2, β2, v3, hst.trans hst2, ?_, hrel.step hk hrel2⟩
    rw [cnt_add hst.len]
    have : wtL (ks.take (k + 1)) = wtL (ks.take k) + ks[k].wt := by
      have hgen : ∀ (l : List Nd) (k : Nat) (h : k < l.length), wtL (l.take (k + 1)) = wtL (l.take k) + l[k].wt := by
        intro l
        induction l with
        | nil => intro k h; simp at h
        | cons x r ih => intro k h; cases k with
          | zero => simp [wtL]
          | succ k => simp only [List.take_succ_cons, wtL, List.getElem_cons_succ]; rw [ih k (by simpa using h)]; omega
      exact hgen ks k hk
    omega
end
end Go.Proofs.Ytfkgfibmhhlemaa
namespace Go.Proofs.Ytfkgfibmhhlemaa
open Go.RowKit Go.Maps Go.WideMaps
theorem slotGo_nonneg (s : List UInt8) : ∀ (l : List (List UInt8)) (i : Nat) (z : Int), slotGo s l i = some z → 0 ≤ z
  | [], _, _, h => by simp [slotGo] at h
  | t :: r, i, z, h => by
    simp only [slotGo] at h
    cases hb : t == s with
    | true => rw [hb] at h; simp at h; omega
    | false => rw [hb] at h; exact slotGo_nonneg s r (i + 1) z h
theorem slot_sign (sl : List (List UInt8)) (s : List UInt8) : decide ((slotOf sl s).getD (-1) < 0) = (slotOf sl s).isNone := by
  cases h : slotOf sl s with
  | none => rfl
  | some z => have := slotGo_nonneg s sl 0 z h; simp; omega
theorem sign_sign (s : ByteArray) : decide ((signO s).getD (-1) < 0) = (signO s).isNone := by
  unfold signO
  repeat' (first | rfl | (cases (s.toList == _) <;> simp only [cond_true, cond_false]))
section
variable {R : Nat → Prop} {sl : List (List UInt8)} {β : Bool} {w : World} {B b n : Nat} {v : Value} {xs : List Value} {v2 : Value} {K : Int} {t : ByteArray} {x : Nat} {ao : Option Addr} {cap : Nat} {a : Int} {ks : List Nd}
abbrev ExprPut (R : Nat → Prop) (sl : List (List UInt8)) (β : Bool) (w : World) (B b : Nat) (v : Value) (n : Nat) (xs : List Value) (v2 : Value) (m : Nat) (o : Option (List Value)) (W : World) (op arg : Int) (num : Nat) (tx : ByteArray) : Prop :=
  Calls Try.prog 21 #[pt b 0, .agg #[.int .i64 op, .int .i64 arg, .float .f64 num, .string tx]] W fun e w' => (∃ i, e = .returned (.int .i64 i)) ∧ MLaid R sl β w B b v n xs v2 m o w'
theorem mfinish0 {new : List Value} {β1 : Bool} {v1 : Value} {wr : World} {o2 : Option (List Value)} (hst : MSteps R sl β1 (Wb w K t x (.slice ao ks.length cap) a) B b v n xs v2 new v1 v2 wr) (hcn : cnt new ≤ wtL ks) (hrel : RelE (exprL sl ks) new β β1) (hs : n + (1 + t.size + wtL ks) + 1 ≤ 3518437208883)
    (op arg : Int) (num : Nat) (tx : ByteArray) (ho : o2 = (exprL sl ks).map (· ++ ins op arg (.float .f64 num) tx)) : ExprPut R sl β w B b v n xs v2 (1 + t.size + wtL ks) o2 wr op arg num tx :=
  (mput_one hst.st (by omega) op arg num tx).mono fun e w' ⟨he, v3, h3⟩ => ⟨⟨_, he⟩, new ++ ins op arg (.float .f64 num) tx, β1, v3, (hst.trans h3).base (kp_alloc w _), by rw [cnt_add hst.len, cnt_ins]; omega, hrel.last true (by simp) (by rw [ho]; rfl)⟩
theorem mfinish {new : List Value} {β1 : Bool} {v1 : Value} {wr wr2 : World} {o2 : Option (List Value)} (hst : MSteps R sl β1 (Wb w K t x (.slice ao ks.length cap) a) B b v n xs v2 new v1 v2 wr) (hcn : cnt new ≤ wtL ks) (hrel : RelE (exprL sl ks) new β β1) (hs : n + (1 + t.size + wtL ks) + 1 ≤ 3518437208883)
    (hk : Kp (fun _ => False) wr wr2) (good : Bool) {β2 : Bool} (hβ : β2 = (β1 || !good)) (op arg : Int) (num : Nat) (tx : ByteArray) (ho : o2 = bif good then (exprL sl ks).map (· ++ ins op arg (.float .f64 num) tx) else none) :
    ExprPut R sl β w B b v n xs v2 (1 + t.size + wtL ks) o2 (wr2.setCell ⟨b, 2, none⟩ (.bool β2)) op arg num tx := by
  have h1 := hst.trans (MSteps.kp hst.st hk)
  have h2 := h1.trans (MSteps.mark h1.st β2)
  rw [List.append_nil, List.append_nil] at h2
  exact (mput_one h2.st (by omega) op arg num tx).mono fun e w' ⟨he, v3, h3⟩ => ⟨⟨_, he⟩, new ++ ins op arg (.float .f64 num) tx, β2, v3, (h2.trans h3).base (kp_alloc w _), by rw [cnt_add h2.len, cnt_ins]; omega, hrel.last good hβ ho⟩
theorem loop_full {wr : World} (h : LoopS R sl β w B b v n xs v2 K t x ao cap a ks ks.length wr) : MLaid R sl β (Wb w K t x (.slice ao ks.length cap) a) B b v n xs v2 (wtL ks) (exprL sl ks) wr := by
  unfold LoopS at h
  rwa [List.take_length] at h
/-- what is no expression -/
theorem mexpr_bad (hM : Mk R sl β w B b v n xs v2) (hk : (K != 19) = true) (hwf : (Lit.int .i64 K).wf = true) (hbad : kidsOf kidsE K = none ∨ ∃ c, kidsOf kidsE K = some c ∧ (c != (ks.length : Int)) = true) (ho : exprC sl (.mk K t x ks a) = none) (m : Nat) :
    Calls Try.prog 41 #[pt b 0, .agg #[.int .i64 K, .string t, .float .f64 x, .slice ao ks.length cap, .int .i64 a]] w fun e w' => e = .returned (.tuple #[]) ∧ MLaid R sl β w B b v n xs v2 m (exprC sl (.mk K t x ks a)) w' := by
  refine mexpr_no _ b w K hk hwf t x ao ks.length cap a hbad fun wi hki => ?_
  have hk0 := (kp_alloc w (.cells #[.int .i64 K, .string t, .float .f64 x, .slice ao ks.length cap, .int .i64 a] 25)).trans0 hki
  have h1 := MSteps.kp hM hk0
  have h2 := h1.trans (MSteps.mark h1.st true)
  refine ⟨⟨_, h1.st.bad⟩, h1.st.z2, [], true, v, h2, by simp [cnt], ?_⟩
  rw [ho]
  exact ⟨fun _ => rfl, rfl⟩
theorem mexpr_ok15 (ih : ∀ i (h : i < ks.length), MExprOk ks[i]) (hM : Mk R sl β w B b v n xs v2) (hok : okL ks) (hlen : SlAt ks.length (.slice ao ks.length cap)) (hkids : KidsAt R w ks (.slice ao ks.length cap) 0) (hl : ks.length ≤ cap) (hcap : cap ≤ 9223372036854775807) (hsl : sl.length ≤ 9223372036854775807) (hs : n + (1 + t.size + wtL ks) + 1 ≤ 3518437208883) :
    Calls Try.prog 41 #[pt b 0, .agg #[.int .i64 15, .string t, .float .f64 x, .slice ao ks.length cap, .int .i64 a]] w fun e w' => e = .returned (.tuple #[]) ∧ MLaid R sl β w B b v n xs v2 (1 + t.size + wtL ks) (exprC sl (.mk 15 t x ks a)) w' := by
  by_cases h0 : ks.length = 0
  · have hL := kids_loop (K := 15) (t := t) (x := x) (a := a) hM ih hok hlen hkids hsl (by omega)
    refine mexpr_15 _ _ b w t x ao ks.length cap (by rw [h0]; rfl) hl hcap a hL.aos hL.s0 hL.bx hL.kid fun wr hS => ?_
    obtain ⟨new, β1, v1, hst, hcn, hrel⟩ := loop_full hS
    refine mfinish0 hst hcn hrel hs 1 0 x noText ?_
    obtain rfl := List.eq_nil_of_length_eq_zero h0
    rw [exprC, if_pos rfl, if_pos h0, exprL]; rfl
  · exact mexpr_bad hM rfl (by decide) (.inr ⟨0, rfl, by simp; omega⟩) (by rw [exprC, if_pos rfl, if_neg h0]) _
theorem mexpr_ok16 (ih : ∀ i (h : i < ks.length), MExprOk ks[i]) (hM : Mk R sl β w B b v n xs v2) (hok : okL ks) (hlen : SlAt ks.length (.slice ao ks.length cap)) (hkids : KidsAt R w ks (.slice ao ks.length cap) 0) (hl : ks.length ≤ cap) (hcap : cap ≤ 9223372036854775807) (hsl : sl.length ≤ 9223372036854775807) (hs : n + (1 + t.size + wtL ks) + 1 ≤ 3518437208883) :
    Calls Try.prog 41 #[pt b 0, .agg #[.int .i64 16, .string t, .float .f64 x, .slice ao ks.length cap, .int .i64 a]] w fun e w' => e = .returned (.tuple #[]) ∧ MLaid R sl β w B b v n xs v2 (1 + t.size + wtL ks) (exprC sl (.mk 16 t x ks a)) w' := by
  by_cases h0 : ks.length = 0
  · have hL := kids_loop (K := 16) (t := t) (x := x) (a := a) hM ih hok hlen hkids hsl (by omega)
    refine mexpr_16 _ _ b w t x ao ks.length cap (by rw [h0]; rfl) hl hcap a hL.aos hL.s0 hL.bx hL.kid fun wr hS => ?_
    obtain ⟨new, β1, v1, hst, hcn, hrel⟩ := loop_full hS
    refine mfinish0 hst hcn hrel hs 2 0 0 t ?_
    obtain rfl := List.eq_nil_of_length_eq_zero h0
    rw [exprC, if_neg (by decide), if_pos rfl, if_pos h0, exprL]; rfl
  · exact mexpr_bad hM rfl (by decide) (.inr ⟨0, rfl, by simp; omega⟩) (by rw [exprC, if_neg (by decide), if_pos rfl, if_neg h0]) _
theorem mexpr_ok14 (ih : ∀ i (h : i < ks.length), MExprOk ks[i]) (hM : Mk R sl β w B b v n xs v2) (hok : okL ks) (hlen : SlAt ks.length (.slice ao ks.length cap)) (hkids : KidsAt R w ks (.slice ao ks.length cap) 0) (hl : ks.length ≤ cap) (hcap : cap ≤ 9223372036854775807) (hsl : sl.length ≤ 9223372036854775807) (hs : n + (1 + t.size + wtL ks) + 1 ≤ 3518437208883) :
    Calls Try.prog 41 #[pt b 0, .agg #[.int .i64 14, .string t, .float .f64 x, .slice ao ks.length cap, .int .i64 a]] w fun e w' => e = .returned (.tuple #[]) ∧ MLaid R sl β w B b v n xs v2 (1 + t.size + wtL ks) (exprC sl (.mk 14 t x ks a)) w' := by
  by_cases h0 : ks.length = 0
  · have hL := kids_loop (K := 14) (t := t) (x := x) (a := a) hM ih hok hlen hkids hsl (by omega)
    refine mexpr_14 _ _ b w t x ao ks.length cap (by rw [h0]; rfl) hl hcap a hL.aos hL.s0 hL.bx hL.kid fun wr hS => ?_
    obtain ⟨new, β1, v1, hst, hcn, hrel⟩ := loop_full hS
    refine ⟨β1, _, _, slot_sign sl t.toList, mslot_any B b sl v2 t wr hst.st.names hst.st.nown hsl, hst.st.bad, hst.st.z2, mfinish hst hcn hrel hs (kp_refl _ _) (slotOf sl t.toList).isSome (by simp) 3 _ 0 noText ?_⟩
    obtain rfl := List.eq_nil_of_length_eq_zero h0
    rw [exprC, if_neg (by decide), if_neg (by decide), if_pos rfl, if_pos h0, exprL]
    cases slotOf sl t.toList <;> rfl
  · exact mexpr_bad hM rfl (by decide) (.inr ⟨0, rfl, by simp; omega⟩) (by rw [exprC, if_neg (by decide), if_neg (by decide), if_pos rfl, if_neg h0]) _
end
end Go.Proofs.Ytfkgfibmhhlemaa
namespace Go.Proofs.Ytfkgfibmhhlemaa
open Go.RowKit Go.Maps Go.WideMaps
section
variable {R : Nat → Prop} {sl : List (List UInt8)} {β : Bool} {w : World} {B b n : Nat} {v : Value} {xs : List Value} {v2 : Value} {K : Int} {t : ByteArray} {x : Nat} {ao : Option Addr} {cap : Nat} {a : Int} {ks : List Nd}
theorem mexpr_ok17 (ih : ∀ i (h : i < ks.length), MExprOk ks[i]) (hM : Mk R sl β w B b v n xs v2) (hok : okL ks) (hlen : SlAt ks.length (.slice ao ks.length cap)) (hkids : KidsAt R w ks (.slice ao ks.length cap) 0) (hl : ks.length ≤ cap) (hcap : cap ≤ 9223372036854775807) (hsl : sl.length ≤ 9223372036854775807) (hs : n + (1 + t.size + wtL ks) + 1 ≤ 3518437208883) :
    Calls Try.prog 41 #[pt b 0, .agg #[.int .i64 17, .string t, .float .f64 x, .slice ao ks.length cap, .int .i64 a]] w fun e w' => e = .returned (.tuple #[]) ∧ MLaid R sl β w B b v n xs v2 (1 + t.size + wtL ks) (exprC sl (.mk 17 t x ks a)) w' := by
  by_cases h1 : ks.length = 1
  · have hL := kids_loop (K := 17) (t := t) (x := x) (a := a) hM ih hok hlen hkids hsl (by omega)
    refine mexpr_17 _ _ b w t x ao ks.length cap (by rw [h1]; rfl) hl hcap a hL.aos hL.s0 hL.bx hL.kid fun wr hS => ?_
    obtain ⟨new, β1, v1, hst, hcn, hrel⟩ := loop_full hS
    refine ⟨β1, t.toList == [33], t.toList == [45], rfl, rfl, rfl, rfl, hst.st.bad, hst.st.z2, mfinish hst hcn hrel hs (kp_refl _ _) (t.toList == [45] || t.toList == [33]) (by cases (t.toList == [33]) <;> cases (t.toList == [45]) <;> rfl) _ 0 0 noText ?_⟩
    rw [exprC, if_neg (by decide), if_neg (by decide), if_neg (by decide), if_pos rfl]
    by_cases e1 : t.toList = [33]
    · have e2 : ¬ t.toList = [45] := by rw [e1]; decide
      simp [e1, h1]
    · by_cases e2 : t.toList = [45]
      · simp [e2, h1]
      · have b1 : (t.toList == [33]) = false := by simpa using e1
        have b2 : (t.toList == [45]) = false := by simpa using e2
        simp [e1, e2, b1, b2]
  · exact mexpr_bad hM rfl (by decide) (.inr ⟨1, rfl, by simp; omega⟩) (by rw [exprC, if_neg (by decide), if_neg (by decide), if_neg (by decide), if_pos rfl, if_neg h1]; simp) _
theorem mexpr_ok18 (ih : ∀ i (h : i < ks.length), MExprOk ks[i]) (hM : Mk R sl β w B b v n xs v2) (hok : okL ks) (hlen : SlAt ks.length (.slice ao ks.length cap)) (hkids : KidsAt R w ks (.slice ao ks.length cap) 0) (hl : ks.length ≤ cap) (hcap : cap ≤ 9223372036854775807) (hsl : sl.length ≤ 9223372036854775807) (hs : n + (1 + t.size + wtL ks) + 1 ≤ 3518437208883) :
    Calls Try.prog 41 #[pt b 0, .agg #[.int .i64 18, .string t, .float .f64 x, .slice ao ks.length cap, .int .i64 a]] w fun e w' => e = .returned (.tuple #[]) ∧ MLaid R sl β w B b v n xs v2 (1 + t.size + wtL ks) (exprC sl (.mk 18 t x ks a)) w' := by
  by_cases h2 : ks.length = 2
  · have hL := kids_loop (K := 18) (t := t) (x := x) (a := a) hM ih hok hlen hkids hsl (by omega)
    refine mexpr_18 _ _ b w t x ao ks.length cap (by rw [h2]; rfl) hl hcap a hL.aos hL.s0 hL.bx hL.kid
      (fun w2 => ∃ wr, MLaid R sl β (Wb w 18 t x (.slice ao ks.length cap) a) B b v n xs v2 (wtL ks) (exprL sl ks) wr ∧ Kp (fun _ => False) wr w2) _ _ (sign_sign t) (fun wr hS => (mop_any t wr).mono fun e w' h => ⟨h.1, wr, loop_full hS, h.2⟩) fun w2 ⟨wr, hS, hk⟩ => ?_
    obtain ⟨new, β1, v1, hst, hcn, hrel⟩ := hS
    have hst2 := (hst.trans (MSteps.kp hst.st hk)).st
    refine ⟨β1, hst2.bad, hst2.z2, mfinish hst hcn hrel hs hk (signO t).isSome (by cases (signO t) <;> rfl) _ 0 0 noText ?_⟩
    rw [exprC, if_neg (by decide), if_neg (by decide), if_neg (by decide), if_neg (by decide), if_pos rfl]
    cases signO t with
    | none => rfl
    | some o => simp [h2]
  · refine mexpr_bad hM rfl (by decide) (.inr ⟨2, rfl, by simp; omega⟩) ?_ _
    rw [exprC, if_neg (by decide), if_neg (by decide), if_neg (by decide), if_neg (by decide), if_pos rfl]
    cases signO t with
    | none => rfl
    | some o => simp [h2]
theorem mexpr_ok19 (ih : ∀ i (h : i < ks.length), MExprOk ks[i]) (hM : Mk R sl β w B b v n xs v2) (hok : okL ks) (hlen : SlAt ks.length (.slice ao ks.length cap)) (hkids : KidsAt R w ks (.slice ao ks.length cap) 0) (hl : ks.length ≤ cap) (hcap : cap ≤ 9223372036854775807) (hsl : sl.length ≤ 9223372036854775807) (hs : n + (1 + t.size + wtL ks) + 1 ≤ 3518437208883) :
    Calls Try.prog 41 #[pt b 0, .agg #[.int .i64 19, .string t, .float .f64 x, .slice ao ks.length cap, .int .i64 a]] w fun e w' => e = .returned (.tuple #[]) ∧ MLaid R sl β w B b v n xs v2 (1 + t.size + wtL ks) (exprC sl (.mk 19 t x ks a)) w' := by
  have hL := kids_loop (K := 19) (t := t) (x := x) (a := a) hM ih hok hlen hkids hsl (by omega)
  refine mexpr_19 _ _ b w t x ao ks.length cap hl hcap a hL.aos hL.s0 hL.bx hL.kid
    (fun nm fa fc is w2 => is = (fnOf t.toList).isSome ∧ (∀ z, fnOf t.toList = some z → fa = z) ∧ ∃ wr, MLaid R sl β (Wb w 19 t x (.slice ao ks.length cap) a) B b v n xs v2 (wtL ks) (exprL sl ks) wr ∧ Kp (fun _ => False) wr w2) (fun wr hS => (mfind_any t wr).mono fun e w' ⟨nm, fa, fc, h1, h2, h3⟩ => ⟨nm, fa, fc, _, h1, rfl, h2, wr, loop_full hS, h3⟩) fun nm fa fc is w2 ⟨his, hfa, wr, hS, hk⟩ => ?_
  obtain ⟨new, β1, v1, hst, hcn, hrel⟩ := hS
  have hko : ∀ o, Kp (fun _ => False) wr (w2.alloc o) := fun o => hk.trans0 (kp_alloc w2 o)
  have hst2 := fun o => hst.trans (MSteps.kp hst.st (hko o))
  refine ⟨fun o => boxed_kept hM (hst2 o).kept, fun o z => ?_, β1, _, rfl, by simp [bne], fun o => (hst2 o).st.bad, fun o => (hst2 o).st.z2, mfinish hst hcn hrel hs (hko _) (is && fa == (ks.length : Int)) (by cases is <;> cases h : (fa == (ks.length : Int)) <;> simp [bne, h]) 17 _ 0 t ?_⟩
  · have h := boxed_kept (K := 19) (t := t) (x := x) (S := .slice ao ks.length cap) (a := a) hM (hst2 o).kept
    have hne : b ≠ w.heap.size := by have := hM.lt; omega
    have hb : ((w2.alloc o).setCell ⟨b, 2, none⟩ z).heap[w.heap.size]? = (w2.alloc o).heap[w.heap.size]? := by simp [World.setCell, Array.getElem?_modify, hne]
    exact ⟨(World.cell?_of_block hb).trans h.c0, (World.cell?_of_block hb).trans h.c1, (World.cell?_of_block hb).trans h.c2, (World.cell?_of_block hb).trans h.c3⟩
  · rw [exprC, if_neg (by decide), if_neg (by decide), if_neg (by decide), if_neg (by decide), if_neg (by decide), if_pos rfl, his]
    cases hf : fnOf t.toList with
    | none => simp
    | some z =>
      obtain rfl := hfa z hf
      by_cases e : fa = (ks.length : Int)
      · simp [e]
      · have b1 : (fa == (ks.length : Int)) = false := by simpa using e
        simp [e, b1]
theorem mexpr_node (k : Int) (t : ByteArray) (x : Nat) (ks : List Nd) (a : Int) (ih : ∀ i (h : i < ks.length), MExprOk ks[i]) : MExprOk (.mk k t x ks a) := by
  intro R sl β w B b v n xs v2 V hM hok hV hsl hs
  obtain ⟨S, rfl, hlen, hkids⟩ := hV
  obtain ⟨ao, cap, hl, hcap, rfl⟩ : ∃ ao cap, ks.length ≤ cap ∧ cap ≤ 9223372036854775807 ∧ S = .slice ao ks.length cap := by
    rcases hlen with ⟨h0, q, cap, rfl, h2⟩ | ⟨kb, ko, cap, rfl, h1, h2⟩
    · unfold maxLen at h2; exact ⟨q, cap, by omega, by omega, by rw [h0]⟩
    · unfold maxLen at h2; exact ⟨_, cap, h1, h2, rfl⟩
  rw [Nd.wt] at hs ⊢
  by_cases h15 : k = 15
  · subst h15; exact mexpr_ok15 ih hM hok.2 hlen hkids hl hcap hsl hs
  by_cases h16 : k = 16
  · subst h16; exact mexpr_ok16 ih hM hok.2 hlen hkids hl hcap hsl hs
  by_cases h14 : k = 14
  · subst h14; exact mexpr_ok14 ih hM hok.2 hlen hkids hl hcap hsl hs
  by_cases h17 : k = 17
  · subst h17; exact mexpr_ok17 ih hM hok.2 hlen hkids hl hcap hsl hs
  by_cases h18 : k = 18
  · subst h18; exact mexpr_ok18 ih hM hok.2 hlen hkids hl hcap hsl hs
  by_cases h19 : k = 19
  · subst h19; exact mexpr_ok19 ih hM hok.2 hlen hkids hl hcap hsl hs
  refine mexpr_bad hM (by simpa using h19) hok.1 (.inl ?_) (by rw [exprC, if_neg h15, if_neg h16, if_neg h14, if_neg h17, if_neg h18, if_neg h19]) _
  have hb : ∀ c : Int, k ≠ c → (c == k) = false := fun c h => by simpa using fun e => h e.symm
  simp only [kidsOf, kidsE, List.foldl_cons, List.foldl_nil, hb 15 h15, hb 16 h16, hb 14 h14, hb 17 h17, hb 18 h18, cond_false]
end
mutual
theorem mexpr_any : ∀ nd, MExprOk nd
  | .mk k t x ks a => mexpr_node k t x ks a (mexpr_all ks)
theorem mexpr_all : ∀ (ks : List Nd) (i : Nat) (h : i < ks.length), MExprOk ks[i]
  | [], _, h => absurd h (Nat.not_lt_zero _)
  | n :: _, 0, _ => mexpr_any n
  | _ :: r, i + 1, h => mexpr_all r i (Nat.lt_of_succ_lt_succ h)
end
end Go.Proofs.Ytfkgfibmhhlemaa
namespace Go.Proofs.Ytfkgfibmhhlemaa
open Go.RowKit Go.Maps Go.WideMaps
set_option maxRecDepth 100000 in
set_option maxHeartbeats 6400000 in
theorem mstmt_12 (S1 : World → Prop) (Q : World → Prop) (b : Nat) (w : World) (t : ByteArray) (x : Nat) (kb ko cap n : Nat) (a : Int)
    (hkid0 : ∀ wi, Kp (fun _ => False) (Wb w 12 t x (.slice (some ⟨kb, ko, none⟩) 1 cap) a) wi → (∃ am cm, wi.cell? ⟨b, 0, none⟩ = some (.slice am n cm)) ∧ ∃ c0 c1 c2 c3 c4, wi.cell? ⟨kb, ko, none⟩ = some c0 ∧ wi.cell? ⟨kb, ko + 1, none⟩ = some c1 ∧ wi.cell? ⟨kb, ko + 2, none⟩ = some c2 ∧ wi.cell? ⟨kb, ko + 3, none⟩ = some c3 ∧ wi.cell? ⟨kb, ko + 4, none⟩ = some c4 ∧ Calls Try.prog 41 #[pt b 0, .agg #[c0, c1, c2, c3, c4]] wi fun e w' => e = .returned (.tuple #[]) ∧ S1 w')
    (hB1 : ∀ wr, S1 wr → Boxed wr w.heap.size 12 t x (.slice (some ⟨kb, ko, none⟩) 1 cap))
    (hput : ∀ wr, S1 wr → Calls Try.prog 21 #[pt b 0, .agg #[.int .i64 18, .int .i64 0, .float .f64 0, .string ⟨#[]⟩]] wr fun e w' => (∃ i, e = .returned (.int .i64 i)) ∧ Q w') :
    Calls Try.prog 28 #[pt b 0, .agg #[.int .i64 12, .string t, .float .f64 x, .slice (some ⟨kb, ko, none⟩) 1 cap, .int .i64 a]] w fun e w' => e = .returned (.tuple #[]) ∧ Q w' := by
  have hmm := @run_makeMap Try.prog
  have hown0 : ((Wb w 12 t x (.slice (some ⟨kb, ko, none⟩) 1 cap) a).alloc (.map #[] 0)).ownsMap Try.prog 3 RI (w.heap.size + 1) 0 (.map []) := wb_made w 12 t x (.slice (some ⟨kb, ko, none⟩) 1 cap) a
  have hk0 := kp_alloc (Wb w 12 t x (.slice (some ⟨kb, ko, none⟩) 1 cap) a) (.map #[] 0)
  go_enter Try.func28, Try.ntmps28
  go_wp2_with (first | (refine wpList_insert_own _ rfl (.tmp 11) _ _ 83 rfl 3 3 law3 Try.underlying83 RI (w.heap.size + 1) _ _ rfl (by assumption) (by decide) _ _ _ rfl rfl (key3 (by decide)) _ _ (RI_int (by decide)) ?_; intro w1 hown1 hgrow1; have hk1 := kp_stepb (by assumption) hgrow1; clear hgrow1; obtain ⟨y0, y1, y2, y3⟩ := kp_boxed hk1) | (at_lookup; refine wpList_lookup_own_ok_int _ rfl _ _ 83 rfl 3 3 .i64 law3 Try.underlying83 Try.underlying3 (zero3 _) (w.heap.size + 1) 5 (kidsD kidsS) rfl hown1 _ _ rfl (key3 (by decide)) ?_; intro c hat hwc; obtain ⟨hcc, hhas⟩ := kids_look hat; rw [hhas]; obtain rfl : c = 1 := hcc; clear hat; obtain ⟨⟨am, cm, hcm⟩, c0, c1, c2, c3, c4, g0, g1, g2, g3, g4, hcall⟩ := hkid0 _ hk1; clear hkid0 hk1) | (go_at_call 41; refine Calls.mono hcall ?_; rintro e w2 ⟨rfl, h1⟩; obtain ⟨z0, z1, z2, z3⟩ := hB1 _ h1; clear hcall) | (go_at_call 21; refine Calls.mono (hput _ h1) ?_; rintro e w3 ⟨⟨i, rfl⟩, h3⟩))
  all_goals
    first
      | (refine bodyPost_ret (results_none rfl _ _ _) rfl ?_; exact ⟨rfl, by assumption⟩)
      | (go_end0; exact ⟨rfl, by assumption⟩)
set_option maxRecDepth 100000 in
set_option maxHeartbeats 6400000 in
theorem mstmt_13 (S1 : World → Prop) (Q : World → Prop) (b : Nat) (w : World) (t : ByteArray) (x : Nat) (kb ko cap n : Nat) (a : Int)
    (hkid0 : ∀ wi, Kp (fun _ => False) (Wb w 13 t x (.slice (some ⟨kb, ko, none⟩) 1 cap) a) wi → (∃ am cm, wi.cell? ⟨b, 0, none⟩ = some (.slice am n cm)) ∧ ∃ c0 c1 c2 c3 c4, wi.cell? ⟨kb, ko, none⟩ = some c0 ∧ wi.cell? ⟨kb, ko + 1, none⟩ = some c1 ∧ wi.cell? ⟨kb, ko + 2, none⟩ = some c2 ∧ wi.cell? ⟨kb, ko + 3, none⟩ = some c3 ∧ wi.cell? ⟨kb, ko + 4, none⟩ = some c4 ∧ Calls Try.prog 41 #[pt b 0, .agg #[c0, c1, c2, c3, c4]] wi fun e w' => e = .returned (.tuple #[]) ∧ S1 w')
    (hB1 : ∀ wr, S1 wr → Boxed wr w.heap.size 13 t x (.slice (some ⟨kb, ko, none⟩) 1 cap))
    (hput : ∀ wr, S1 wr → Calls Try.prog 21 #[pt b 0, .agg #[.int .i64 19, .int .i64 0, .float .f64 0, .string ⟨#[]⟩]] wr fun e w' => (∃ i, e = .returned (.int .i64 i)) ∧ Q w') :
    Calls Try.prog 28 #[pt b 0, .agg #[.int .i64 13, .string t, .float .f64 x, .slice (some ⟨kb, ko, none⟩) 1 cap, .int .i64 a]] w fun e w' => e = .returned (.tuple #[]) ∧ Q w' := by
  have hmm := @run_makeMap Try.prog
  have hown0 : ((Wb w 13 t x (.slice (some ⟨kb, ko, none⟩) 1 cap) a).alloc (.map #[] 0)).ownsMap Try.prog 3 RI (w.heap.size + 1) 0 (.map []) := wb_made w 13 t x (.slice (some ⟨kb, ko, none⟩) 1 cap) a
  have hk0 := kp_alloc (Wb w 13 t x (.slice (some ⟨kb, ko, none⟩) 1 cap) a) (.map #[] 0)
  go_enter Try.func28, Try.ntmps28
  go_wp2_with (first | (refine wpList_insert_own _ rfl (.tmp 11) _ _ 83 rfl 3 3 law3 Try.underlying83 RI (w.heap.size + 1) _ _ rfl (by assumption) (by decide) _ _ _ rfl rfl (key3 (by decide)) _ _ (RI_int (by decide)) ?_; intro w1 hown1 hgrow1; have hk1 := kp_stepb (by assumption) hgrow1; clear hgrow1; obtain ⟨y0, y1, y2, y3⟩ := kp_boxed hk1) | (at_lookup; refine wpList_lookup_own_ok_int _ rfl _ _ 83 rfl 3 3 .i64 law3 Try.underlying83 Try.underlying3 (zero3 _) (w.heap.size + 1) 5 (kidsD kidsS) rfl hown1 _ _ rfl (key3 (by decide)) ?_; intro c hat hwc; obtain ⟨hcc, hhas⟩ := kids_look hat; rw [hhas]; obtain rfl : c = 1 := hcc; clear hat; obtain ⟨⟨am, cm, hcm⟩, c0, c1, c2, c3, c4, g0, g1, g2, g3, g4, hcall⟩ := hkid0 _ hk1; clear hkid0 hk1) | (go_at_call 41; refine Calls.mono hcall ?_; rintro e w2 ⟨rfl, h1⟩; obtain ⟨z0, z1, z2, z3⟩ := hB1 _ h1; clear hcall) | (go_at_call 21; refine Calls.mono (hput _ h1) ?_; rintro e w3 ⟨⟨i, rfl⟩, h3⟩))
  all_goals
    first
      | (refine bodyPost_ret (results_none rfl _ _ _) rfl ?_; exact ⟨rfl, by assumption⟩)
      | (go_end0; exact ⟨rfl, by assumption⟩)
end Go.Proofs.Ytfkgfibmhhlemaa
namespace Go.Proofs.Ytfkgfibmhhlemaa
open Go.RowKit Go.Maps Go.WideMaps
set_option maxRecDepth 100000 in
set_option maxHeartbeats 6400000 in
theorem mstmt_11 (S1 : World → Prop) (S2 S3 S4 : Nat → World → Prop) (Q : World → Prop) (b : Nat) (w : World) (t : ByteArray) (x : Nat) (kb ko cap n : Nat) (a : Int)
    (hkid0 : ∀ wi, Kp (fun _ => False) (Wb w 11 t x (.slice (some ⟨kb, ko, none⟩) 2 cap) a) wi → (∃ am cm, wi.cell? ⟨b, 0, none⟩ = some (.slice am n cm)) ∧ ∃ c0 c1 c2 c3 c4, wi.cell? ⟨kb, ko, none⟩ = some c0 ∧ wi.cell? ⟨kb, ko + 1, none⟩ = some c1 ∧ wi.cell? ⟨kb, ko + 2, none⟩ = some c2 ∧ wi.cell? ⟨kb, ko + 3, none⟩ = some c3 ∧ wi.cell? ⟨kb, ko + 4, none⟩ = some c4 ∧ Calls Try.prog 41 #[pt b 0, .agg #[c0, c1, c2, c3, c4]] wi fun e w' => e = .returned (.tuple #[]) ∧ S1 w')
    (hB1 : ∀ wr, S1 wr → Boxed wr w.heap.size 11 t x (.slice (some ⟨kb, ko, none⟩) 2 cap))
    (hput1 : ∀ wr, S1 wr → Calls Try.prog 21 #[pt b 0, .agg #[.int .i64 16, .int .i64 0, .float .f64 0, .string ⟨#[]⟩]] wr fun e w' => ∃ j : Nat, e = .returned (.int .i64 j) ∧ S2 j w')
    (hblk : ∀ j wr, S2 j wr → Boxed wr w.heap.size 11 t x (.slice (some ⟨kb, ko, none⟩) 2 cap) ∧ ∃ c0 c1 c2 c3 c4, wr.cell? ⟨kb, ko + 5, none⟩ = some c0 ∧ wr.cell? ⟨kb, ko + 6, none⟩ = some c1 ∧ wr.cell? ⟨kb, ko + 7, none⟩ = some c2 ∧ wr.cell? ⟨kb, ko + 8, none⟩ = some c3 ∧ wr.cell? ⟨kb, ko + 9, none⟩ = some c4 ∧ Calls Try.prog 20 #[pt b 0, .agg #[c0, c1, c2, c3, c4]] wr fun e w' => e = .returned (.tuple #[]) ∧ S3 j w')
    (hput2 : ∀ j wr, S3 j wr → Calls Try.prog 21 #[pt b 0, .agg #[.int .i64 15, .int .i64 n, .float .f64 0, .string ⟨#[]⟩]] wr fun e w' => (∃ i, e = .returned (.int .i64 i)) ∧ S4 j w')
    (hshut : ∀ (j : Nat) wr, S4 j wr → ∃ g m cp old, j < m ∧ m ≤ 9223372036854775807 ∧ wr.cell? ⟨b, 0, none⟩ = some (.slice (some ⟨g, 0, none⟩) m cp) ∧ wr.cell? ⟨g, j * 4 + 1, none⟩ = some old ∧ wr.frozen? ⟨g, j * 4 + 1, none⟩ = false ∧ old.oneCell' = true ∧ Q ((wr.setCell ⟨g, j * 4 + 1, none⟩ (.int .i64 m)).drew)) :
    Calls Try.prog 28 #[pt b 0, .agg #[.int .i64 11, .string t, .float .f64 x, .slice (some ⟨kb, ko, none⟩) 2 cap, .int .i64 a]] w fun e w' => e = .returned (.tuple #[]) ∧ Q w' := by
  have hmm := @run_makeMap Try.prog
  have hown0 : ((Wb w 11 t x (.slice (some ⟨kb, ko, none⟩) 2 cap) a).alloc (.map #[] 0)).ownsMap Try.prog 3 RI (w.heap.size + 1) 0 (.map []) := wb_made w 11 t x (.slice (some ⟨kb, ko, none⟩) 2 cap) a
  have hk0 := kp_alloc (Wb w 11 t x (.slice (some ⟨kb, ko, none⟩) 2 cap) a) (.map #[] 0)
  go_enter Try.func28, Try.ntmps28
  go_wp2_with (first | (refine wpList_insert_own _ rfl (.tmp 11) _ _ 83 rfl 3 3 law3 Try.underlying83 RI (w.heap.size + 1) _ _ rfl (by assumption) (by decide) _ _ _ rfl rfl (key3 (by decide)) _ _ (RI_int (by decide)) ?_; intro w1 hown1 hgrow1; have hk1 := kp_stepb (by assumption) hgrow1; clear hgrow1; obtain ⟨y0, y1, y2, y3⟩ := kp_boxed hk1) | (at_lookup; refine wpList_lookup_own_ok_int _ rfl _ _ 83 rfl 3 3 .i64 law3 Try.underlying83 Try.underlying3 (zero3 _) (w.heap.size + 1) 5 (kidsD kidsS) rfl hown1 _ _ rfl (key3 (by decide)) ?_; intro c hat hwc; obtain ⟨hcc, hhas⟩ := kids_look hat; rw [hhas]; obtain rfl : c = 2 := hcc; clear hat; obtain ⟨⟨am, cm, hcm⟩, c0, c1, c2, c3, c4, g0, g1, g2, g3, g4, hcall⟩ := hkid0 _ hk1; clear hkid0 hk1) | (go_at_call 41; refine Calls.mono hcall ?_; rintro e w2 ⟨rfl, h1⟩; obtain ⟨z0, z1, z2, z3⟩ := hB1 _ h1; clear hcall) | (go_at_call 21; refine Calls.mono (hput1 _ h1) ?_; rintro e w3 ⟨j, rfl, h2⟩; obtain ⟨⟨v0, v1, v2, v3⟩, d0, d1, d2, d3, d4, f0', f1, f2, f3, f4, hcall2⟩ := hblk _ _ h2; clear hput1 h1) | (go_at_call 20; refine Calls.mono hcall2 ?_; rintro e w4 ⟨rfl, h3⟩; clear hcall2) | (go_at_call 21; refine Calls.mono (hput2 _ _ h3) ?_; rintro e w5 ⟨⟨i, rfl⟩, h4⟩; obtain ⟨g, m, cp, old, hjm, hm, q0, q1, q2, q3, hq⟩ := hshut _ _ h4; clear h3 hshut hput2))
  go_region
  all_goals
    go_end0
    exact ⟨rfl, hq⟩
end Go.Proofs.Ytfkgfibmhhlemaa
namespace Go.Proofs.Ytfkgfibmhhlemaa
open Go.RowKit Go.Maps Go.WideMaps
set_option maxRecDepth 100000 in
set_option maxHeartbeats 6400000 in
theorem mstmt_10a (S1 : World → Prop) (S2 S3 : Nat → World → Prop) (Q : World → Prop) (b : Nat) (w : World) (t : ByteArray) (x : Nat) (kb ko cap n : Nat) (a : Int)
    (hkid0 : ∀ wi, Kp (fun _ => False) (Wb w 10 t x (.slice (some ⟨kb, ko, none⟩) 3 cap) a) wi → (∃ am cm, wi.cell? ⟨b, 0, none⟩ = some (.slice am n cm)) ∧ ∃ c0 c1 c2 c3 c4, wi.cell? ⟨kb, ko, none⟩ = some c0 ∧ wi.cell? ⟨kb, ko + 1, none⟩ = some c1 ∧ wi.cell? ⟨kb, ko + 2, none⟩ = some c2 ∧ wi.cell? ⟨kb, ko + 3, none⟩ = some c3 ∧ wi.cell? ⟨kb, ko + 4, none⟩ = some c4 ∧ Calls Try.prog 41 #[pt b 0, .agg #[c0, c1, c2, c3, c4]] wi fun e w' => e = .returned (.tuple #[]) ∧ S1 w')
    (hB1 : ∀ wr, S1 wr → Boxed wr w.heap.size 10 t x (.slice (some ⟨kb, ko, none⟩) 3 cap))
    (hput1 : ∀ wr, S1 wr → Calls Try.prog 21 #[pt b 0, .agg #[.int .i64 16, .int .i64 0, .float .f64 0, .string ⟨#[]⟩]] wr fun e w' => ∃ j : Nat, e = .returned (.int .i64 j) ∧ S2 j w')
    (hblk : ∀ j wr, S2 j wr → Boxed wr w.heap.size 10 t x (.slice (some ⟨kb, ko, none⟩) 3 cap) ∧ ∃ c0 c1 c2 c3 c4, wr.cell? ⟨kb, ko + 5, none⟩ = some c0 ∧ wr.cell? ⟨kb, ko + 6, none⟩ = some c1 ∧ wr.cell? ⟨kb, ko + 7, none⟩ = some c2 ∧ wr.cell? ⟨kb, ko + 8, none⟩ = some c3 ∧ wr.cell? ⟨kb, ko + 9, none⟩ = some c4 ∧ Calls Try.prog 20 #[pt b 0, .agg #[c0, c1, c2, c3, c4]] wr fun e w' => e = .returned (.tuple #[]) ∧ S3 j w')
    (hshut : ∀ (j : Nat) wr, S3 j wr → (Boxed wr w.heap.size 10 t x (.slice (some ⟨kb, ko, none⟩) 3 cap) ∧ wr.cell? ⟨kb, ko + 10, none⟩ = some (.int .i64 0) ∧ ∃ ak ck, wr.cell? ⟨kb, ko + 10 + 3, none⟩ = some (.slice ak 0 ck)) ∧ ∃ g m cp old, j < m ∧ m ≤ 9223372036854775807 ∧ wr.cell? ⟨b, 0, none⟩ = some (.slice (some ⟨g, 0, none⟩) m cp) ∧ wr.cell? ⟨g, j * 4 + 1, none⟩ = some old ∧ wr.frozen? ⟨g, j * 4 + 1, none⟩ = false ∧ old.oneCell' = true ∧ Q ((wr.setCell ⟨g, j * 4 + 1, none⟩ (.int .i64 m)).drew)) :
    Calls Try.prog 28 #[pt b 0, .agg #[.int .i64 10, .string t, .float .f64 x, .slice (some ⟨kb, ko, none⟩) 3 cap, .int .i64 a]] w fun e w' => e = .returned (.tuple #[]) ∧ Q w' := by
  have hmm := @run_makeMap Try.prog
  have hown0 : ((Wb w 10 t x (.slice (some ⟨kb, ko, none⟩) 3 cap) a).alloc (.map #[] 0)).ownsMap Try.prog 3 RI (w.heap.size + 1) 0 (.map []) := wb_made w 10 t x (.slice (some ⟨kb, ko, none⟩) 3 cap) a
  have hk0 := kp_alloc (Wb w 10 t x (.slice (some ⟨kb, ko, none⟩) 3 cap) a) (.map #[] 0)
  go_enter Try.func28, Try.ntmps28
  go_wp2_with (first | (refine wpList_insert_own _ rfl (.tmp 11) _ _ 83 rfl 3 3 law3 Try.underlying83 RI (w.heap.size + 1) _ _ rfl (by assumption) (by decide) _ _ _ rfl rfl (key3 (by decide)) _ _ (RI_int (by decide)) ?_; intro w1 hown1 hgrow1; have hk1 := kp_stepb (by assumption) hgrow1; clear hgrow1; obtain ⟨y0, y1, y2, y3⟩ := kp_boxed hk1) | (at_lookup; refine wpList_lookup_own_ok_int _ rfl _ _ 83 rfl 3 3 .i64 law3 Try.underlying83 Try.underlying3 (zero3 _) (w.heap.size + 1) 5 (kidsD kidsS) rfl hown1 _ _ rfl (key3 (by decide)) ?_; intro c hat hwc; obtain ⟨hcc, hhas⟩ := kids_look hat; rw [hhas]; obtain rfl : c = 3 := hcc; clear hat; obtain ⟨⟨am, cm, hcm⟩, c0, c1, c2, c3, c4, g0, g1, g2, g3, g4, hcall⟩ := hkid0 _ hk1; clear hkid0 hk1) | (go_at_call 41; refine Calls.mono hcall ?_; rintro e w2 ⟨rfl, h1⟩; obtain ⟨z0, z1, z2, z3⟩ := hB1 _ h1; clear hcall) | (go_at_call 21; refine Calls.mono (hput1 _ h1) ?_; rintro e w3 ⟨j, rfl, h2⟩; obtain ⟨⟨v0, v1, v2, v3⟩, d0, d1, d2, d3, d4, f0', f1, f2, f3, f4, hcall2⟩ := hblk _ _ h2; clear hput1 h1) | (go_at_call 20; refine Calls.mono hcall2 ?_; rintro e w4 ⟨rfl, h3⟩; clear hcall2; obtain ⟨⟨⟨u0, u1, u2, u3⟩, p0, ak, ck, p1⟩, g, m, cp, old, hjm, hm, q0, q1, q2, q3, hq⟩ := hshut _ _ h3))
  go_region
  all_goals
    go_wp2_with fail
    refine bodyPost_ret (results_none rfl _ _ _) rfl ?_
    exact ⟨rfl, hq⟩
end Go.Proofs.Ytfkgfibmhhlemaa
namespace Go.Proofs.Ytfkgfibmhhlemaa
open Go.RowKit Go.Maps Go.WideMaps
set_option maxRecDepth 100000 in
set_option maxHeartbeats 6400000 in
theorem mstmt_10b (S1 : World → Prop) (S2 S3 : Nat → World → Prop) (S4 : Nat → Nat → World → Prop) (S5 S6 : Nat → World → Prop) (Q : World → Prop) (b : Nat) (w : World) (t : ByteArray) (x : Nat) (kb ko cap n : Nat) (a : Int)
    (hkid0 : ∀ wi, Kp (fun _ => False) (Wb w 10 t x (.slice (some ⟨kb, ko, none⟩) 3 cap) a) wi → (∃ am cm, wi.cell? ⟨b, 0, none⟩ = some (.slice am n cm)) ∧ ∃ c0 c1 c2 c3 c4, wi.cell? ⟨kb, ko, none⟩ = some c0 ∧ wi.cell? ⟨kb, ko + 1, none⟩ = some c1 ∧ wi.cell? ⟨kb, ko + 2, none⟩ = some c2 ∧ wi.cell? ⟨kb, ko + 3, none⟩ = some c3 ∧ wi.cell? ⟨kb, ko + 4, none⟩ = some c4 ∧ Calls Try.prog 41 #[pt b 0, .agg #[c0, c1, c2, c3, c4]] wi fun e w' => e = .returned (.tuple #[]) ∧ S1 w')
    (hB1 : ∀ wr, S1 wr → Boxed wr w.heap.size 10 t x (.slice (some ⟨kb, ko, none⟩) 3 cap))
    (hput1 : ∀ wr, S1 wr → Calls Try.prog 21 #[pt b 0, .agg #[.int .i64 16, .int .i64 0, .float .f64 0, .string ⟨#[]⟩]] wr fun e w' => ∃ j : Nat, e = .returned (.int .i64 j) ∧ S2 j w')
    (hblk : ∀ j wr, S2 j wr → Boxed wr w.heap.size 10 t x (.slice (some ⟨kb, ko, none⟩) 3 cap) ∧ ∃ c0 c1 c2 c3 c4, wr.cell? ⟨kb, ko + 5, none⟩ = some c0 ∧ wr.cell? ⟨kb, ko + 6, none⟩ = some c1 ∧ wr.cell? ⟨kb, ko + 7, none⟩ = some c2 ∧ wr.cell? ⟨kb, ko + 8, none⟩ = some c3 ∧ wr.cell? ⟨kb, ko + 9, none⟩ = some c4 ∧ Calls Try.prog 20 #[pt b 0, .agg #[c0, c1, c2, c3, c4]] wr fun e w' => e = .returned (.tuple #[]) ∧ S3 j w')
    (kk : Int) (lk : Nat) (hd0 : (kk == 0) = false)
    (hput2 : ∀ j wr, S3 j wr → (Boxed wr w.heap.size 10 t x (.slice (some ⟨kb, ko, none⟩) 3 cap) ∧ wr.cell? ⟨kb, ko + 10, none⟩ = some (.int .i64 kk) ∧ ∃ ak ck, wr.cell? ⟨kb, ko + 10 + 3, none⟩ = some (.slice ak lk ck)) ∧ Calls Try.prog 21 #[pt b 0, .agg #[.int .i64 15, .int .i64 0, .float .f64 0, .string ⟨#[]⟩]] wr fun e w' => ∃ i : Nat, e = .returned (.int .i64 i) ∧ S4 j i w')
    (hshut : ∀ (j i : Nat) wr, S4 j i wr → ∃ g m cp old, j < m ∧ m ≤ 9223372036854775807 ∧ wr.cell? ⟨b, 0, none⟩ = some (.slice (some ⟨g, 0, none⟩) m cp) ∧ wr.cell? ⟨g, j * 4 + 1, none⟩ = some old ∧ wr.frozen? ⟨g, j * 4 + 1, none⟩ = false ∧ old.oneCell' = true ∧ S5 i ((wr.setCell ⟨g, j * 4 + 1, none⟩ (.int .i64 m)).drew))
    (hblk2 : ∀ i wr, S5 i wr → Boxed wr w.heap.size 10 t x (.slice (some ⟨kb, ko, none⟩) 3 cap) ∧ ∃ c0 c1 c2 c3 c4, wr.cell? ⟨kb, ko + 10, none⟩ = some c0 ∧ wr.cell? ⟨kb, ko + 11, none⟩ = some c1 ∧ wr.cell? ⟨kb, ko + 12, none⟩ = some c2 ∧ wr.cell? ⟨kb, ko + 13, none⟩ = some c3 ∧ wr.cell? ⟨kb, ko + 14, none⟩ = some c4 ∧ Calls Try.prog 20 #[pt b 0, .agg #[c0, c1, c2, c3, c4]] wr fun e w' => e = .returned (.tuple #[]) ∧ S6 i w')
    (hshut2 : ∀ (j : Nat) wr, S6 j wr → ∃ g m cp old, j < m ∧ m ≤ 9223372036854775807 ∧ wr.cell? ⟨b, 0, none⟩ = some (.slice (some ⟨g, 0, none⟩) m cp) ∧ wr.cell? ⟨g, j * 4 + 1, none⟩ = some old ∧ wr.frozen? ⟨g, j * 4 + 1, none⟩ = false ∧ old.oneCell' = true ∧ Q ((wr.setCell ⟨g, j * 4 + 1, none⟩ (.int .i64 m)).drew)) :
    Calls Try.prog 28 #[pt b 0, .agg #[.int .i64 10, .string t, .float .f64 x, .slice (some ⟨kb, ko, none⟩) 3 cap, .int .i64 a]] w fun e w' => e = .returned (.tuple #[]) ∧ Q w' := by
  have hmm := @run_makeMap Try.prog
  have hown0 : ((Wb w 10 t x (.slice (some ⟨kb, ko, none⟩) 3 cap) a).alloc (.map #[] 0)).ownsMap Try.prog 3 RI (w.heap.size + 1) 0 (.map []) := wb_made w 10 t x (.slice (some ⟨kb, ko, none⟩) 3 cap) a
  have hk0 := kp_alloc (Wb w 10 t x (.slice (some ⟨kb, ko, none⟩) 3 cap) a) (.map #[] 0)
  go_enter Try.func28, Try.ntmps28
  go_wp2_with (first | (refine wpList_insert_own _ rfl (.tmp 11) _ _ 83 rfl 3 3 law3 Try.underlying83 RI (w.heap.size + 1) _ _ rfl (by assumption) (by decide) _ _ _ rfl rfl (key3 (by decide)) _ _ (RI_int (by decide)) ?_; intro w1 hown1 hgrow1; have hk1 := kp_stepb (by assumption) hgrow1; clear hgrow1; obtain ⟨y0, y1, y2, y3⟩ := kp_boxed hk1) | (at_lookup; refine wpList_lookup_own_ok_int _ rfl _ _ 83 rfl 3 3 .i64 law3 Try.underlying83 Try.underlying3 (zero3 _) (w.heap.size + 1) 5 (kidsD kidsS) rfl hown1 _ _ rfl (key3 (by decide)) ?_; intro c hat hwc; obtain ⟨hcc, hhas⟩ := kids_look hat; rw [hhas]; obtain rfl : c = 3 := hcc; clear hat; obtain ⟨⟨am, cm, hcm⟩, c0, c1, c2, c3, c4, g0, g1, g2, g3, g4, hcall⟩ := hkid0 _ hk1; clear hkid0 hk1) | (go_at_call 41; refine Calls.mono hcall ?_; rintro e w2 ⟨rfl, h1⟩; obtain ⟨z0, z1, z2, z3⟩ := hB1 _ h1; clear hcall) | (go_at_call 21; refine Calls.mono (hput1 _ h1) ?_; rintro e w3 ⟨j, rfl, h2⟩; obtain ⟨⟨v0, v1, v2, v3⟩, d0, d1, d2, d3, d4, f0', f1, f2, f3, f4, hcall2⟩ := hblk _ _ h2; clear hput1 h1) | (go_at_call 20; refine Calls.mono hcall2 ?_; rintro e w4 ⟨rfl, h3⟩; clear hcall2; obtain ⟨⟨⟨u0, u1, u2, u3⟩, p0, ak, ck, p1⟩, hcall3⟩ := hput2 _ _ h3; clear hput2) | (go_at_call 21; refine Calls.mono hcall3 ?_; rintro e w5 ⟨i, rfl, h4⟩; obtain ⟨g, m, cp, old, hjm, hm, q0, q1, q2, q3, hq⟩ := hshut _ _ _ h4; clear hcall3 hshut))
  all_goals
    go_region
    all_goals
      generalize ((w5.setCell ⟨g, j * 4 + 1, none⟩ (.int .i64 m)).drew) = wn at hq ⊢
      obtain ⟨⟨x0, x1, x2, x3⟩, l0, l1, l2, l3, l4, o0, o1, o2, o3, o4, hcall4⟩ := hblk2 _ _ hq
      clear hblk2 hq q0 q1 q2 q3 p0 p1 u0 u1 u2 u3
      go_wp2_with (go_at_call 20; refine Calls.mono hcall4 ?_; rintro e w6 ⟨rfl, h5⟩; obtain ⟨g2, m2, cp2, old2, hjm2, hm2, q0, q1, q2, q3, hq⟩ := hshut2 _ _ h5; clear hcall4 hshut2)
      go_region
      all_goals
        go_end0
        exact ⟨rfl, hq⟩
end Go.Proofs.Ytfkgfibmhhlemaa
namespace Go.Proofs.Ytfkgfibmhhlemaa
open Go.RowKit Go.Maps Go.WideMaps
set_option maxRecDepth 100000 in
set_option maxHeartbeats 6400000 in
theorem mstmt_10c (S1 : World → Prop) (S2 S3 : Nat → World → Prop) (S4 : Nat → Nat → World → Prop) (S5 S6 : Nat → World → Prop) (Q : World → Prop) (b : Nat) (w : World) (t : ByteArray) (x : Nat) (kb ko cap n : Nat) (a : Int)
    (hkid0 : ∀ wi, Kp (fun _ => False) (Wb w 10 t x (.slice (some ⟨kb, ko, none⟩) 3 cap) a) wi → (∃ am cm, wi.cell? ⟨b, 0, none⟩ = some (.slice am n cm)) ∧ ∃ c0 c1 c2 c3 c4, wi.cell? ⟨kb, ko, none⟩ = some c0 ∧ wi.cell? ⟨kb, ko + 1, none⟩ = some c1 ∧ wi.cell? ⟨kb, ko + 2, none⟩ = some c2 ∧ wi.cell? ⟨kb, ko + 3, none⟩ = some c3 ∧ wi.cell? ⟨kb, ko + 4, none⟩ = some c4 ∧ Calls Try.prog 41 #[pt b 0, .agg #[c0, c1, c2, c3, c4]] wi fun e w' => e = .returned (.tuple #[]) ∧ S1 w')
    (hB1 : ∀ wr, S1 wr → Boxed wr w.heap.size 10 t x (.slice (some ⟨kb, ko, none⟩) 3 cap))
    (hput1 : ∀ wr, S1 wr → Calls Try.prog 21 #[pt b 0, .agg #[.int .i64 16, .int .i64 0, .float .f64 0, .string ⟨#[]⟩]] wr fun e w' => ∃ j : Nat, e = .returned (.int .i64 j) ∧ S2 j w')
    (hblk : ∀ j wr, S2 j wr → Boxed wr w.heap.size 10 t x (.slice (some ⟨kb, ko, none⟩) 3 cap) ∧ ∃ c0 c1 c2 c3 c4, wr.cell? ⟨kb, ko + 5, none⟩ = some c0 ∧ wr.cell? ⟨kb, ko + 6, none⟩ = some c1 ∧ wr.cell? ⟨kb, ko + 7, none⟩ = some c2 ∧ wr.cell? ⟨kb, ko + 8, none⟩ = some c3 ∧ wr.cell? ⟨kb, ko + 9, none⟩ = some c4 ∧ Calls Try.prog 20 #[pt b 0, .agg #[c0, c1, c2, c3, c4]] wr fun e w' => e = .returned (.tuple #[]) ∧ S3 j w')
    (kk : Int) (lk : Nat) (hd0 : (kk == 0) = true) (hd1 : ((lk : Int) == 0) = false)
    (hput2 : ∀ j wr, S3 j wr → (Boxed wr w.heap.size 10 t x (.slice (some ⟨kb, ko, none⟩) 3 cap) ∧ wr.cell? ⟨kb, ko + 10, none⟩ = some (.int .i64 kk) ∧ ∃ ak ck, wr.cell? ⟨kb, ko + 10 + 3, none⟩ = some (.slice ak lk ck)) ∧ Calls Try.prog 21 #[pt b 0, .agg #[.int .i64 15, .int .i64 0, .float .f64 0, .string ⟨#[]⟩]] wr fun e w' => ∃ i : Nat, e = .returned (.int .i64 i) ∧ S4 j i w')
    (hshut : ∀ (j i : Nat) wr, S4 j i wr → ∃ g m cp old, j < m ∧ m ≤ 9223372036854775807 ∧ wr.cell? ⟨b, 0, none⟩ = some (.slice (some ⟨g, 0, none⟩) m cp) ∧ wr.cell? ⟨g, j * 4 + 1, none⟩ = some old ∧ wr.frozen? ⟨g, j * 4 + 1, none⟩ = false ∧ old.oneCell' = true ∧ S5 i ((wr.setCell ⟨g, j * 4 + 1, none⟩ (.int .i64 m)).drew))
    (hblk2 : ∀ i wr, S5 i wr → Boxed wr w.heap.size 10 t x (.slice (some ⟨kb, ko, none⟩) 3 cap) ∧ ∃ c0 c1 c2 c3 c4, wr.cell? ⟨kb, ko + 10, none⟩ = some c0 ∧ wr.cell? ⟨kb, ko + 11, none⟩ = some c1 ∧ wr.cell? ⟨kb, ko + 12, none⟩ = some c2 ∧ wr.cell? ⟨kb, ko + 13, none⟩ = some c3 ∧ wr.cell? ⟨kb, ko + 14, none⟩ = some c4 ∧ Calls Try.prog 20 #[pt b 0, .agg #[c0, c1, c2, c3, c4]] wr fun e w' => e = .returned (.tuple #[]) ∧ S6 i w')
    (hshut2 : ∀ (j : Nat) wr, S6 j wr → ∃ g m cp old, j < m ∧ m ≤ 9223372036854775807 ∧ wr.cell? ⟨b, 0, none⟩ = some (.slice (some ⟨g, 0, none⟩) m cp) ∧ wr.cell? ⟨g, j * 4 + 1, none⟩ = some old ∧ wr.frozen? ⟨g, j * 4 + 1, none⟩ = false ∧ old.oneCell' = true ∧ Q ((wr.setCell ⟨g, j * 4 + 1, none⟩ (.int .i64 m)).drew)) :
    Calls Try.prog 28 #[pt b 0, .agg #[.int .i64 10, .string t, .float .f64 x, .slice (some ⟨kb, ko, none⟩) 3 cap, .int .i64 a]] w fun e w' => e = .returned (.tuple #[]) ∧ Q w' := by
  have hmm := @run_makeMap Try.prog
  have hown0 : ((Wb w 10 t x (.slice (some ⟨kb, ko, none⟩) 3 cap) a).alloc (.map #[] 0)).ownsMap Try.prog 3 RI (w.heap.size + 1) 0 (.map []) := wb_made w 10 t x (.slice (some ⟨kb, ko, none⟩) 3 cap) a
  have hk0 := kp_alloc (Wb w 10 t x (.slice (some ⟨kb, ko, none⟩) 3 cap) a) (.map #[] 0)
  go_enter Try.func28, Try.ntmps28
  go_wp2_with (first | (refine wpList_insert_own _ rfl (.tmp 11) _ _ 83 rfl 3 3 law3 Try.underlying83 RI (w.heap.size + 1) _ _ rfl (by assumption) (by decide) _ _ _ rfl rfl (key3 (by decide)) _ _ (RI_int (by decide)) ?_; intro w1 hown1 hgrow1; have hk1 := kp_stepb (by assumption) hgrow1; clear hgrow1; obtain ⟨y0, y1, y2, y3⟩ := kp_boxed hk1) | (at_lookup; refine wpList_lookup_own_ok_int _ rfl _ _ 83 rfl 3 3 .i64 law3 Try.underlying83 Try.underlying3 (zero3 _) (w.heap.size + 1) 5 (kidsD kidsS) rfl hown1 _ _ rfl (key3 (by decide)) ?_; intro c hat hwc; obtain ⟨hcc, hhas⟩ := kids_look hat; rw [hhas]; obtain rfl : c = 3 := hcc; clear hat; obtain ⟨⟨am, cm, hcm⟩, c0, c1, c2, c3, c4, g0, g1, g2, g3, g4, hcall⟩ := hkid0 _ hk1; clear hkid0 hk1) | (go_at_call 41; refine Calls.mono hcall ?_; rintro e w2 ⟨rfl, h1⟩; obtain ⟨z0, z1, z2, z3⟩ := hB1 _ h1; clear hcall) | (go_at_call 21; refine Calls.mono (hput1 _ h1) ?_; rintro e w3 ⟨j, rfl, h2⟩; obtain ⟨⟨v0, v1, v2, v3⟩, d0, d1, d2, d3, d4, f0', f1, f2, f3, f4, hcall2⟩ := hblk _ _ h2; clear hput1 h1) | (go_at_call 20; refine Calls.mono hcall2 ?_; rintro e w4 ⟨rfl, h3⟩; clear hcall2; obtain ⟨⟨⟨u0, u1, u2, u3⟩, p0, ak, ck, p1⟩, hcall3⟩ := hput2 _ _ h3; clear hput2) | (go_at_call 21; refine Calls.mono hcall3 ?_; rintro e w5 ⟨i, rfl, h4⟩; obtain ⟨g, m, cp, old, hjm, hm, q0, q1, q2, q3, hq⟩ := hshut _ _ _ h4; clear hcall3 hshut))
  all_goals
    go_region
    all_goals
      generalize ((w5.setCell ⟨g, j * 4 + 1, none⟩ (.int .i64 m)).drew) = wn at hq ⊢
      obtain ⟨⟨x0, x1, x2, x3⟩, l0, l1, l2, l3, l4, o0, o1, o2, o3, o4, hcall4⟩ := hblk2 _ _ hq
      clear hblk2 hq q0 q1 q2 q3 p0 p1 u0 u1 u2 u3
      go_wp2_with (go_at_call 20; refine Calls.mono hcall4 ?_; rintro e w6 ⟨rfl, h5⟩; obtain ⟨g2, m2, cp2, old2, hjm2, hm2, q0, q1, q2, q3, hq⟩ := hshut2 _ _ h5; clear hcall4 hshut2)
      go_region
      all_goals
        go_end0
        exact ⟨rfl, hq⟩
end Go.Proofs.Ytfkgfibmhhlemaa
namespace Go.Proofs.Ytfkgfibmhhlemaa
open Go.RowKit Go.Maps Go.WideMaps
set_option maxRecDepth 100000 in
set_option maxHeartbeats 6400000 in
theorem mstmt_9a (S1 : World → Prop) (Q : World → Prop) (b : Nat) (w : World) (t : ByteArray) (x : Nat) (kb ko cap n : Nat) (a : Int)
    (hkid0 : ∀ wi, Kp (fun _ => False) (Wb w 9 t x (.slice (some ⟨kb, ko, none⟩) 1 cap) a) wi → (∃ am cm, wi.cell? ⟨b, 0, none⟩ = some (.slice am n cm)) ∧ ∃ c0 c1 c2 c3 c4, wi.cell? ⟨kb, ko, none⟩ = some c0 ∧ wi.cell? ⟨kb, ko + 1, none⟩ = some c1 ∧ wi.cell? ⟨kb, ko + 2, none⟩ = some c2 ∧ wi.cell? ⟨kb, ko + 3, none⟩ = some c3 ∧ wi.cell? ⟨kb, ko + 4, none⟩ = some c4 ∧ Calls Try.prog 41 #[pt b 0, .agg #[c0, c1, c2, c3, c4]] wi fun e w' => e = .returned (.tuple #[]) ∧ S1 w')
    (hB1 : ∀ wr, S1 wr → Boxed wr w.heap.size 9 t x (.slice (some ⟨kb, ko, none⟩) 1 cap))
    (z : Int) (hz : decide (z < 0) = false) (hslot : ∀ wr, S1 wr → Calls Try.prog 42 #[pt b 0, .string t] wr fun e w' => e = .returned (.int .i64 z) ∧ w' = wr)
    (hput : ∀ wr, S1 wr → Calls Try.prog 21 #[pt b 0, .agg #[.int .i64 4, .int .i64 z, .float .f64 0, .string ⟨#[]⟩]] wr fun e w' => (∃ i, e = .returned (.int .i64 i)) ∧ Q w') :
    Calls Try.prog 28 #[pt b 0, .agg #[.int .i64 9, .string t, .float .f64 x, .slice (some ⟨kb, ko, none⟩) 1 cap, .int .i64 a]] w fun e w' => e = .returned (.tuple #[]) ∧ Q w' := by
  have hmm := @run_makeMap Try.prog
  have hown0 : ((Wb w 9 t x (.slice (some ⟨kb, ko, none⟩) 1 cap) a).alloc (.map #[] 0)).ownsMap Try.prog 3 RI (w.heap.size + 1) 0 (.map []) := wb_made w 9 t x (.slice (some ⟨kb, ko, none⟩) 1 cap) a
  have hk0 := kp_alloc (Wb w 9 t x (.slice (some ⟨kb, ko, none⟩) 1 cap) a) (.map #[] 0)
  go_enter Try.func28, Try.ntmps28
  go_wp2_with (first | (refine wpList_insert_own _ rfl (.tmp 11) _ _ 83 rfl 3 3 law3 Try.underlying83 RI (w.heap.size + 1) _ _ rfl (by assumption) (by decide) _ _ _ rfl rfl (key3 (by decide)) _ _ (RI_int (by decide)) ?_; intro w1 hown1 hgrow1; have hk1 := kp_stepb (by assumption) hgrow1; clear hgrow1; obtain ⟨y0, y1, y2, y3⟩ := kp_boxed hk1) | (at_lookup; refine wpList_lookup_own_ok_int _ rfl _ _ 83 rfl 3 3 .i64 law3 Try.underlying83 Try.underlying3 (zero3 _) (w.heap.size + 1) 5 (kidsD kidsS) rfl hown1 _ _ rfl (key3 (by decide)) ?_; intro c hat hwc; obtain ⟨hcc, hhas⟩ := kids_look hat; rw [hhas]; obtain rfl : c = 1 := hcc; clear hat; obtain ⟨⟨am, cm, hcm⟩, c0, c1, c2, c3, c4, g0, g1, g2, g3, g4, hcall⟩ := hkid0 _ hk1; clear hkid0 hk1) | (go_at_call 41; refine Calls.mono hcall ?_; rintro e w2 ⟨rfl, h1⟩; obtain ⟨z0, z1, z2, z3⟩ := hB1 _ h1; clear hcall) | (go_at_call 42; refine Calls.mono (hslot _ h1) ?_; rintro e w3 ⟨rfl, rfl⟩) | (go_at_call 21; refine Calls.mono (hput _ h1) ?_; rintro e w3 ⟨⟨i, rfl⟩, h3⟩))
  all_goals
    first
      | (refine bodyPost_ret (results_none rfl _ _ _) rfl ?_; exact ⟨rfl, by assumption⟩)
      | (go_end0; exact ⟨rfl, by assumption⟩)
theorem info9 : (Try.prog.info? 9).map (fun i => (i.zero, i.size, i.bytes)) = some (some (.string ⟨#[]⟩), 1, 16) := by kernel_rfl
theorem news1 (w : World) (k : Nat) (hk : k = w.heap.size) (a : Value) : ∀ j u, [a][j]? = some u → (w.alloc (.cells #[a] 9)).cell? ((⟨k, 0, none⟩ : Addr).add j) = some u := by
  subst hk
  intro j u h
  have e : (⟨w.heap.size, 0, none⟩ : Addr).add j = ⟨w.heap.size, j, none⟩ := by simp [Addr.add]; exact Eq.symm
  rw [e, World.cell?_alloc_new]
  simpa using h
end Go.Proofs.Ytfkgfibmhhlemaa

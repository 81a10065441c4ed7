/- group: the staged blocks into the journal. No conditions. -/
import Derived.Test.YtkcclaljhedmjaaB5
namespace Go.Proofs.Ytkcclaljhedmjaa
open Go.RowKit Go.Maps
/-- a call of a Go function as a step of a region that draws -/
theorem step_call {P : Program} {ops : Array Oper} {o : Oper} {a : Act} {w : World} {K : Act → World → Prop} {Q : Exit → Act → World → Prop} {E : Prop}
    (hg : o.guard = none) (f : Nat) (args : Array Value) (hx : (execOp a.eval o).run P w = .ok (.enter f args) w) (S : Ending → World → Prop) (hc : Calls P f args w S) (h : ∀ e w', S e w' → ∃ v, e = .returned v ∧ K (a.put o.dst v) w') :
    if Region.wanted o (yielded ops a.tmps) = true then Oper.wp P o a w K Q else E := by
  have hw : Region.wanted o (yielded ops a.tmps) = true := by simp [Region.wanted, hg]
  rw [if_pos hw]
  unfold Oper.wp
  rw [hx, Oper.upon_enter]
  refine hc.mono fun e w' hs => ?_
  obtain ⟨v, rfl, hk⟩ := h e w' hs
  exact hk
/-- the staged homes in their row -/
structure KsOf (S : Int → Option ByteArray) (m : Nat) (ks : List Nat) : Prop where
  sorted : ks.Pairwise (· < ·)
  mem : ∀ k : Nat, k ∈ ks ↔ (S (k : Int)).isSome = true
  len : ks.length = m
theorem sorted_one : ∀ {xs ys : List Nat}, xs.Pairwise (· < ·) → ys.Pairwise (· < ·) → (∀ k, k ∈ xs ↔ k ∈ ys) → xs = ys
  | [], [], _, _, _ => rfl
  | [], y :: ys, _, _, h => by have := (h y).2 (by simp); simp at this
  | x :: xs, [], _, _, h => by have := (h x).1 (by simp); simp at this
  | x :: xs, y :: ys, hx, hy, h => by
    obtain ⟨hx1, hx2⟩ := List.pairwise_cons.1 hx
    obtain ⟨hy1, hy2⟩ := List.pairwise_cons.1 hy
    have e : x = y := by
      have h1 := (h x).1 (by simp)
      have h2 := (h y).2 (by simp)
      rcases List.mem_cons.1 h1 with e | h1
      · exact e
      · rcases List.mem_cons.1 h2 with e | h2
        · exact e.symm
        · have := hx1 y h2; have := hy1 x h1; omega
    subst e
    rw [sorted_one hx2 hy2 fun k => ?_]
    have := h k
    simp only [List.mem_cons] at this
    by_cases hk : k = x
    · subst hk
      exact ⟨fun hh => absurd (hx1 k hh) (Nat.lt_irrefl _), fun hh => absurd (hy1 k hh) (Nat.lt_irrefl _)⟩
    · simpa [hk] using this
/-- as bytes -/
def stgN (S : Int → Option ByteArray) : Nat → Option (List Nat) := fun k => (S (k : Int)).map bytesOf
section
variable {p : Pl} {w : World} {j d mb ib : Nat} {f : Nat → List Nat} {off cut over : Bool} {writes : Int} {S : Int → Option ByteArray} {m : Nat} {ks : List Nat}
theorem KsOf.grp (hk : KsOf S m ks) (hS : Stg p S m) : Grp p (stgN S) ks := by
  refine ⟨hk.sorted.imp (fun h => Nat.ne_of_lt h), fun k => ?_, fun k hm => ?_, by rw [hk.len]; exact hS.few⟩
  · rw [hk.mem, stgN, Option.isSome_map]
  · obtain ⟨s, hs⟩ := Option.isSome_iff_exists.1 ((hk.mem k).1 hm)
    obtain ⟨⟨n, hn, hh⟩, _⟩ := hS.home _ _ hs
    obtain rfl : k = n := by omega
    exact hh
/-- the journal, whatever is left of the power -/
def JX (p : Pl) (w : World) (j d mb ib : Nat) (f : Nat → List Nat) (off cut : Bool) (writes : Int) (over : Bool) (S : Int → Option ByteArray) (m : Nat) : Prop := ∃ left, JW p w j d mb ib f off cut left writes over S m
theorem JX.kp {w' : World} {F : Nat → Prop} (h : JX p w j d mb ib f off cut writes over S m) (hk : Kp F w w') (h1 : ¬ F j) (h2 : ¬ F d) (h3 : ¬ F mb) (h4 : ¬ F ib) : JX p w' j d mb ib f off cut writes over S m := by
  obtain ⟨left, h⟩ := h
  exact ⟨left, h.kp hk h1 h2 h3 h4⟩
theorem JX.same {w' : World} (h : JX p w j d mb ib f off cut writes over S m) (hk : Kp (fun _ => False) w w') : JX p w' j d mb ib f off cut writes over S m := h.kp hk (fun e => e) (fun e => e) (fun e => e) (fun e => e)
def WroteJ (p : Pl) (j d mb ib : Nat) (f : Nat → List Nat) (off cut : Bool) (writes : Int) (over : Bool) (S : Int → Option ByteArray) (m : Nat) (k : Nat) (s : ByteArray) (w : World) (e : Ending) (w' : World) : Prop :=
  ∃ c f' off' writes', e = .returned (.int .i64 c) ∧ JX p w' j d mb ib f' off' cut writes' over S m ∧ Kp (fun i => i = d ∨ i = ib) w w' ∧ w'.heap.size = w.heap.size ∧ (off' = true → cut = true ∨ off = true) ∧
    ((c = 603 ∧ off = true ∧ f' = f ∧ off' = true) ∨ (c = 0 ∧ off = false ∧ f' = upd f k (bytesOf s) ∧ writes' = wrap64 (writes + 1)))
theorem JX.write (h : JX p w j d mb ib f off cut writes over S m) (k : Nat) (hk : k < p.n) (s : ByteArray) (hs : s.size = 256) : Calls Try.prog 30 #[.pointer (some ⟨d, 0, none⟩), .int .i64 (k : Int), .string s] w (WroteJ p j d mb ib f off cut writes over S m k s w) := by
  have hp := p.ok
  obtain ⟨left, h⟩ := h
  obtain ⟨n1, n2, n3, n4, n5, n6⟩ := h.ne
  cases off
  · refine (dwrite_ok w d ib p.n f cut left writes k s hk hs n5 (by omega) h.disk).mono ?_
    rintro e w' ⟨rfl, hd, hK, hz⟩
    refine ⟨0, _, _, _, rfl, ⟨_, hd, (hK.block j (blk_lt h.row) (fun e => ?_)).trans h.row, h.map.kp hK (fun e => ?_)⟩, hK, hz, fun h => ?_, .inr ⟨rfl, rfl, rfl, rfl⟩⟩
    · rcases e with e | e
      · exact n1 e
      · exact n3 e
    · rcases e with e | e
      · exact n4 e.symm
      · exact n6 e
    · simp at h
      exact .inl h.1
  · refine (dwrite_off w d ib p.n f cut left writes k s (by omega) h.disk).mono ?_
    rintro e w' ⟨rfl, rfl⟩
    exact ⟨603, f, true, writes, rfl, ⟨left, h⟩, kp_refl _ _, rfl, fun _ => .inr rfl, .inl ⟨rfl, rfl, rfl, rfl⟩⟩
end
end Go.Proofs.Ytkcclaljhedmjaa

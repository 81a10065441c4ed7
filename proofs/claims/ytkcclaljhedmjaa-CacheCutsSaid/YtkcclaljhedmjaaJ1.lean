/- CacheSteps: the plain side of room: the ring goes round, and within two rounds a block that nobody needs is given up. No conditions. -/
namespace Go.Proofs.Ytkcclaljhedmjaa
/-- so many looks are enough for every block that nobody needs -/
def Near (busy seen : Nat → Bool) (ring : List Nat) (L i : Nat) : Prop := ∀ p, p < ring.length → busy (ring.getD p 0) = false → p + 1 + (if seen (ring.getD p 0) then L else 0) + i ≤ 2 * L
theorem near_start (busy seen : Nat → Bool) (ring : List Nat) : Near busy seen ring ring.length 0 := by
  intro p hp _
  split <;> omega
/-- one look: the first goes to the end, and is not 'seen' any more if nobody needs it -/
theorem Near.next {busy seen seen' : Nat → Bool} {a : Nat} {r : List Nat} {L i : Nat} (h : Near busy seen (a :: r) L i) (hL : r.length + 1 = L) (hn : a ∉ r) (ha : busy a = false → seen a = true ∧ seen' a = false) (hs : ∀ k, k ≠ a → seen' k = seen k) : Near busy seen' (r ++ [a]) L (i + 1) := by
  intro p hp hb
  by_cases h1 : p < r.length
  · have e : (r ++ [a]).getD p 0 = r.getD p 0 := by simp [List.getElem?_append_left h1]
    rw [e] at hb ⊢
    have hm : r.getD p 0 ∈ r := by simp [h1]
    have := h (p + 1) (by simp; omega) (by simpa using hb)
    rw [hs _ fun e => hn (e ▸ hm)]
    simp only [List.getD_cons_succ] at this
    omega
  · have hp2 : p = r.length := by simp at hp; omega
    subst hp2
    have e : (r ++ [a]).getD r.length 0 = a := by simp
    rw [e] at hb ⊢
    have := h 0 (by simp) (by simpa using hb)
    simp only [List.getD_cons_zero, (ha hb).1, if_true] at this
    rw [(ha hb).2]
    simp only [Bool.false_eq_true, if_false]
    omega
/-- behind all looks all that is held is needed -/
theorem Near.done {busy seen : Nat → Bool} {ring : List Nat} {L : Nat} (h : Near busy seen ring L (2 * L)) : ∀ k, k ∈ ring → busy k = true := by
  intro k hk
  obtain ⟨p, hp, e⟩ := List.getElem_of_mem hk
  have e2 : ring.getD p 0 = k := by simp [hp, e]
  cases hb : busy k with
  | true => rfl
  | false => have := h p hp (by rw [e2]; exact hb); omega
end Go.Proofs.Ytkcclaljhedmjaa

/- CacheSteps: the plain side: how many blocks are needed. No conditions. -/
namespace Go.Proofs.Ytkcclaljhedmjaa
theorem len_le {α : Type} [DecidableEq α] (xs ys : List α) (hx : xs.Nodup) (h : ∀ x, x ∈ xs → x ∈ ys) : xs.length ≤ ys.length := by
  induction xs generalizing ys with
  | nil => simp
  | cons a xs ih =>
    rw [List.nodup_cons] at hx
    have hm : a ∈ ys := h a (by simp)
    have := ih (ys.erase a) hx.2 fun x hxm => by
      have hne : x ≠ a := fun e => hx.1 (e ▸ hxm)
      exact (List.mem_erase_of_ne hne).2 (h x (by simp [hxm]))
    have hl := List.length_erase_of_mem hm
    have := List.length_pos_of_mem hm
    simp only [List.length_cons]
    omega
theorem len_eq {α : Type} [DecidableEq α] (xs ys : List α) (hx : xs.Nodup) (hy : ys.Nodup) (h : ∀ x, x ∈ xs ↔ x ∈ ys) : xs.length = ys.length :=
  Nat.le_antisymm (len_le xs ys hx fun x hm => (h x).1 hm) (len_le ys xs hy fun x hm => (h x).2 hm)
/-- the count of the law: the dirty ones, and the pinned ones that are not -/
theorem busy_len (ring dk pk : List Nat) (busy : Nat → Bool) (hr : ring.Nodup) (hd : dk.Nodup) (hp : pk.Nodup) (hb : ∀ k, (k ∈ dk ∨ k ∈ pk) ↔ (k ∈ ring ∧ busy k = true)) : dk.length + (pk.filter (fun k => !dk.contains k)).length = (ring.filter busy).length := by
  rw [← List.length_append]
  apply len_eq
  · rw [List.nodup_append]
    refine ⟨hd, hp.filter _, fun a ha b hb e => ?_⟩
    subst e
    simp [ha] at hb
  · exact hr.filter _
  · intro k
    have := hb k
    by_cases hk : k ∈ dk
    · simp [hk] at this ⊢
      exact ⟨this.1, this.2⟩
    · simp [hk] at this ⊢
      exact this
/-- not all are needed: one may go; all are needed: none may -/
theorem busy_room (ring : List Nat) (busy : Nat → Bool) (size : Nat) (hl : ring.length = size) : (ring.filter busy).length < size ↔ ∃ k, k ∈ ring ∧ busy k = false := by
  constructor
  · intro h
    apply Classical.byContradiction
    intro hn
    have : ring.filter busy = ring := List.filter_eq_self.2 fun a ha => by
      cases hb : busy a with
      | true => rfl
      | false => exact absurd ⟨a, ha, hb⟩ hn
    rw [this] at h; omega
  · rintro ⟨k, hk, hb⟩
    subst hl
    induction ring with
    | nil => simp at hk
    | cons a r ih =>
      have h1 := List.length_filter_le busy r
      rcases List.mem_cons.1 hk with e | hm
      · subst e; simp [hb]; omega
      · have := ih hm
        rw [List.filter_cons]
        split
        · simpa using this
        · simp; omega
end Go.Proofs.Ytkcclaljhedmjaa

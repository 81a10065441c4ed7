import Derived.Test.YtkcclaljhedmjaaA2
namespace Go.Proofs.Ytkcclaljhedmjaa
open Go.RowKit Go.Maps Go.Lib
theorem size5 : (Try.prog.info? 5).map (·.size) = some 1 := by kernel_rfl
/-- a write that was done -/
def WroteTo (w : World) (d ib n : Nat) (f : Nat → List Nat) (cut : Bool) (left writes : Int) (k : Nat) (s : ByteArray) (e : Ending) (w' : World) : Prop :=
  e = .returned (.int .i64 0) ∧ DiskAt w' d ib n (upd f k (bytesOf s)) (cut && decide (wrap64 (left - 1) ≤ 0)) cut (wrap64 (left - 1)) (wrap64 (writes + 1)) ∧ Kp (fun k => k = d ∨ k = ib) w w' ∧ w'.heap.size = w.heap.size
set_option maxHeartbeats 1000000 in
theorem dwrite_off (w : World) (d ib n : Nat) (f : Nat → List Nat) (cut : Bool) (left writes : Int) (at_ : Int) (s : ByteArray) (hn : 256 * n ≤ 1000000) (h : DiskAt w d ib n f true cut left writes) : Calls Try.prog 30 #[.pointer (some ⟨d, 0, none⟩), .int .i64 at_, .string s] w (MayPost 603 w) := by
  have hb := block_any w d ib n true _ _ _ at_ hn h.row
  unfold BlockPost at hb
  simp only [cond_true] at hb
  go_enter Try.func30, Try.ntmps30
  go_wp2_with (go_at_call 55; refine Calls.mono hb ?_; rintro e w' ⟨rfl, rfl⟩)
  go_ret
  exact ⟨rfl, rfl⟩
theorem wrote_close {w W1 : World} {d ib n : Nat} {f : Nat → List Nat} {cut : Bool} {left writes : Int} {k : Nat} {s : ByteArray} {o : Bool} (h : DiskAt w d ib n f false cut left writes) (hs : s.size = 256) (hne : d ≠ ib) (hrow1 : W1.heap[d]? = some (.cells #[.slice (some ⟨ib, 0, none⟩) (256 * n) (256 * n), .bool false, .bool cut, .int .i64 left, .int .i64 writes] 66)) (himg1 : W1.heap[ib]? = some (.cells (cellsOf (flat (upd f k (bytesOf s)) n)) 5))
    (hk1 : Kp (fun k => k = d ∨ k = ib) w W1) (hz1 : W1.heap.size = w.heap.size) (ho : o = (cut && decide (wrap64 (left - 1) ≤ 0))) : WroteTo w d ib n f cut left writes k s (.returned (.int .i64 0)) (((W1.setCell ⟨d, 4, none⟩ (.int .i64 (wrap64 (writes + 1)))).setCell ⟨d, 3, none⟩ (.int .i64 (wrap64 (left - 1)))).setCell ⟨d, 1, none⟩ (.bool o)) := by
  subst ho
  have hl : (bytesOf s).length = 256 := by rw [bytesOf_length, hs]
  refine ⟨rfl, ⟨set_blk (set_blk (set_blk hrow1 4 _) 3 _) 1 _, ?_, fun j => ?_, fun j => ?_, wrap_wrap _⟩, ?_, by simp [World.setCell, hz1]⟩
  · rw [set_far hne.symm, set_far hne.symm, set_far hne.symm]; exact himg1
  · by_cases e : j = k
    · rw [e, upd_same]; exact hl
    · rw [upd_other _ _ e]; exact h.len j
  · by_cases e : j = k
    · rw [e, upd_same]; exact bytesOf_lt s
    · rw [upd_other _ _ e]; exact h.byt j
  · exact ((hk1.trans ((kp_set1 _ _ _ _).imp fun _ e => .inl e)).trans ((kp_set1 _ _ _ _).imp fun _ e => .inl e)).trans ((kp_set1 _ _ _ _).imp fun _ e => .inl e)
set_option maxHeartbeats 1000000 in
theorem dwrite_ok (w : World) (d ib n : Nat) (f : Nat → List Nat) (cut : Bool) (left writes : Int) (k : Nat) (s : ByteArray) (hk : k < n) (hs : s.size = 256) (hne : d ≠ ib) (hn : 256 * n ≤ 1000000) (h : DiskAt w d ib n f false cut left writes) : Calls Try.prog 30 #[.pointer (some ⟨d, 0, none⟩), .int .i64 k, .string s] w (WroteTo w d ib n f cut left writes k s) := by
  have hb := block_any w d ib n false _ _ _ k hn h.row
  unfold BlockPost at hb
  have hin : (decide ((0 : Int) ≤ (k : Int)) && decide ((k : Int) < (n : Int))) = true := by simp; omega
  simp only [hin, cond_false, cond_true, Int.toNat_natCast] at hb
  have hfl := flat_length h.len n
  have hsz : (cellsOf (flat f n)).size = 256 * n := by simp [cellsOf, hfl]
  have hcp := run_copy_row_string (P := Try.prog) w 61 9 3 5 ib (256 * k) 256 (256 * n - 256 * k) s (cellsOf (flat f n)) 5 Try.underlying61 size5 h.img (by omega) (by omega)
  rw [hs] at hcp
  obtain ⟨W1, hW1⟩ : ∃ W1, W1 = w.setRow ib ((cellsOf (flat f n)).toList.take (256 * k) ++ byteCells s.data.toList ++ (cellsOf (flat f n)).toList.drop (256 * k + 256)).toArray := ⟨_, rfl⟩
  rw [← hW1] at hcp
  have hrow1 : W1.heap[d]? = some (.cells #[.slice (some ⟨ib, 0, none⟩) (256 * n) (256 * n), .bool false, .bool cut, .int .i64 left, .int .i64 writes] 66) := by
    rw [hW1, setRow_other _ _ _ _ hne]; exact h.row
  have himg1 : W1.heap[ib]? = some (.cells (cellsOf (flat (upd f k (bytesOf s)) n)) 5) := by
    rw [hW1, setRow_heap _ _ _ _ _ _ h.img, ← flat_upd h.len n k (bytesOf s) (by rw [bytesOf_length, hs]) hk]
    simp only [cellsOf, List.map_append, List.map_take, List.map_drop, byteCells, bytesOf, List.map_map, Nat.mul_add, Nat.mul_one]
    rfl
  have hk1 : Kp (fun k => k = d ∨ k = ib) w W1 := by
    rw [hW1]
    exact ⟨rfl, rfl, rfl, by simp [World.setRow], fun j _ hj => setRow_other _ _ _ _ fun e => hj (.inr e)⟩
  have hz1 : W1.heap.size = w.heap.size := by rw [hW1]; simp [World.setRow]
  clear hW1
  have hs2 : ((s.size : Int) != 256) = false := by rw [hs]; rfl
  have hs3 : (s.size == 256) = true := by rw [hs]; rfl
  obtain ⟨⟨p0, p1, p2, p3, p4⟩, z0, z1, z2, z3, z4⟩ := row5 hrow1
  go_enter Try.func30, Try.ntmps30
  cases cut
  · go_wp2_with (go_at_call 55; refine Calls.mono hb ?_; rintro e w' ⟨rfl, rfl⟩)
    go_ret
    exact wrote_close h hs hne hrow1 himg1 hk1 hz1 rfl
  · cases hl : decide (wrap64 (left - 1) ≤ 0)
    · go_wp2_with (go_at_call 55; refine Calls.mono hb ?_; rintro e w' ⟨rfl, rfl⟩)
      go_ret
      exact wrote_close h hs hne hrow1 himg1 hk1 hz1 (by rw [hl]; rfl)
    · go_wp2_with (go_at_call 55; refine Calls.mono hb ?_; rintro e w' ⟨rfl, rfl⟩)
      go_ret
      exact wrote_close h hs hne hrow1 himg1 hk1 hz1 (by rw [hl]; rfl)
end Go.Proofs.Ytkcclaljhedmjaa

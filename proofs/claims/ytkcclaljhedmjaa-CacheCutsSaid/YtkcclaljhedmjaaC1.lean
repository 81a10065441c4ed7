/- The laws' blocks. No conditions. -/
import Derived.Test.YtkcclaljhedmjaaC0
namespace Go.Proofs.Ytkcclaljhedmjaa
open Go.RowKit Go.Maps
def blkB (q : Nat) (c : Int) (i : Nat) : Nat := ((c + (i % q : Nat)) % 256).toNat
def blkL (q : Nat) (c : Int) : List Nat := (List.range 256).map (blkB q c)
theorem blkL_len (q : Nat) (c : Int) : (blkL q c).length = 256 := by rw [blkL, List.length_map, List.length_range]
theorem blkL_byte (q : Nat) (c : Int) : ∀ b ∈ blkL q c, b < 256 := by
  intro b hb
  obtain ⟨i, _, rfl⟩ := List.mem_map.1 hb
  unfold blkB; omega
def blkRow (L : List Nat) (k : Nat) : List Nat := L.take k ++ List.replicate (256 - k) 0
theorem blkRow_len {L : List Nat} (hL : L.length = 256) {k : Nat} (hk : k ≤ 256) : (blkRow L k).length = 256 := by
  simp [blkRow, hL]; omega
theorem blkRow_set {L : List Nat} (hL : L.length = 256) {k : Nat} (hk : k < 256) {x : Nat} (hx : L[k]? = some x) : (blkRow L k).set k x = blkRow L (k + 1) := by
  apply List.ext_getElem?
  intro i
  rw [List.getElem?_set]
  have hl := blkRow_len hL (Nat.le_of_lt hk)
  unfold blkRow at hl ⊢
  have h1 : (L.take k).length = k := by simp [hL]; omega
  have h2 : (L.take (k + 1)).length = k + 1 := by simp [hL]; omega
  by_cases hik : k = i
  · subst hik
    rw [if_pos rfl, if_pos (by omega), List.getElem?_append_left (by omega), List.getElem?_take, if_pos (by omega), hx]
  · rw [if_neg hik]
    by_cases hlt : i < k
    · rw [List.getElem?_append_left (by omega), List.getElem?_append_left (by omega), List.getElem?_take, List.getElem?_take, if_pos hlt, if_pos (by omega)]
    · rw [List.getElem?_append_right (by omega), List.getElem?_append_right (by omega), h1, h2, List.getElem?_replicate, List.getElem?_replicate]
      by_cases h5 : i < 256
      · rw [if_pos (by omega), if_pos (by omega)]
      · rw [if_neg (by omega), if_neg (by omega)]
theorem blkRow_all {L : List Nat} (hL : L.length = 256) : blkRow L 256 = L := by
  simp [blkRow, hL, List.take_of_length_le]
def BlkRel (L : List Nat) (w : World) (k : Nat) (wr : World) : Prop := k ≤ 256 ∧ wr.heap[w.heap.size]? = some (.cells (cellsOf (blkRow L k)) 5) ∧ Kp (fun _ => False) w wr
set_option maxHeartbeats 1000000 in
theorem blk7_any (c : Int) (w : World) : Calls Try.prog 11 #[.int .i64 c] w (StrPost (strB (blkL 7 c)) w) := by
  have hL := blkL_len 7 c
  have hget : ∀ k, k < 256 → (blkL 7 c)[k]? = some (blkB 7 c k) := fun k hk => by simp [blkL, hk]
  generalize blkL 7 c = L at *
  have hmk : (Instr.makeSlice 61 (.int .i64 256) (.int .i64 256)).run Try.prog w = .ok (.slice (some ⟨w.heap.size, 0, none⟩) 256 256) (w.alloc (.cells (cellsOf (List.replicate 256 0)) 5)) := mk_bytes w 256 (by omega)
  have hrel0 : BlkRel L w 0 (w.alloc (.cells (cellsOf (List.replicate 256 0)) 5)) := ⟨by omega, heap_alloc_new w _, kp_alloc _ _ _⟩
  generalize List.replicate 256 0 = Z at *
  go_enter Try.func11, Try.ntmps11
  go_wp2
  go_loopw [4] (fun i wr => ∃ k : Nat, i = .int .i64 k ∧ BlkRel L w k wr) (fun i _ => 256 - (RowKit.intOf i).toNat)
  case atStart => exact ⟨0, rfl, hrel0⟩
  case round =>
    obtain ⟨k, rfl, hk, hr, hkp⟩ := hrel
    by_cases hlt : k < 256
    · have g3 : decide ((k : Int) < 256) = true := by simp; omega
      have hz := frozen_of hr k
      obtain ⟨v, hv⟩ := row_cell hr (k := k) (by rw [blkRow_len hL hk]; exact hlt)
      go_wp2
      refine ⟨⟨k + 1, by simp, by omega, ?_, hkp.own (kp_set1 _ _ _ _) (Nat.le_refl _)⟩, by simp [RowKit.intOf]; omega⟩
      have e : wrap64 (c + (k : Int) % 7) % 256 = ((blkB 7 c k : Nat) : Int) := by unfold blkB wrap64; omega
      rw [e, ← blkRow_set hL hlt (hget k hlt), ← cells_set]
      exact set_blk hr k _
    · have g3 : decide ((k : Int) < 256) = false := by simp; omega
      obtain rfl : k = 256 := by omega
      rw [blkRow_all hL] at hr
      have hcv := conv_row (c := 256) hr hL
      go_wp2
      go_ret
      exact ⟨rfl, hkp⟩
set_option maxHeartbeats 1000000 in
theorem blk5_any (c : Int) (w : World) : Calls Try.prog 27 #[.int .i64 c] w (StrPost (strB (blkL 5 c)) w) := by
  have hL := blkL_len 5 c
  have hget : ∀ k, k < 256 → (blkL 5 c)[k]? = some (blkB 5 c k) := fun k hk => by simp [blkL, hk]
  generalize blkL 5 c = L at *
  have hmk : (Instr.makeSlice 61 (.int .i64 256) (.int .i64 256)).run Try.prog w = .ok (.slice (some ⟨w.heap.size, 0, none⟩) 256 256) (w.alloc (.cells (cellsOf (List.replicate 256 0)) 5)) := mk_bytes w 256 (by omega)
  have hrel0 : BlkRel L w 0 (w.alloc (.cells (cellsOf (List.replicate 256 0)) 5)) := ⟨by omega, heap_alloc_new w _, kp_alloc _ _ _⟩
  generalize List.replicate 256 0 = Z at *
  go_enter Try.func27, Try.ntmps27
  go_wp2
  go_loopw [4] (fun i wr => ∃ k : Nat, i = .int .i64 k ∧ BlkRel L w k wr) (fun i _ => 256 - (RowKit.intOf i).toNat)
  case atStart => exact ⟨0, rfl, hrel0⟩
  case round =>
    obtain ⟨k, rfl, hk, hr, hkp⟩ := hrel
    by_cases hlt : k < 256
    · have g3 : decide ((k : Int) < 256) = true := by simp; omega
      have hz := frozen_of hr k
      obtain ⟨v, hv⟩ := row_cell hr (k := k) (by rw [blkRow_len hL hk]; exact hlt)
      go_wp2
      refine ⟨⟨k + 1, by simp, by omega, ?_, hkp.own (kp_set1 _ _ _ _) (Nat.le_refl _)⟩, by simp [RowKit.intOf]; omega⟩
      have e : wrap64 (c + (k : Int) % 5) % 256 = ((blkB 5 c k : Nat) : Int) := by unfold blkB wrap64; omega
      rw [e, ← blkRow_set hL hlt (hget k hlt), ← cells_set]
      exact set_blk hr k _
    · have g3 : decide ((k : Int) < 256) = false := by simp; omega
      obtain rfl : k = 256 := by omega
      rw [blkRow_all hL] at hr
      have hcv := conv_row (c := 256) hr hL
      go_wp2
      go_ret
      exact ⟨rfl, hkp⟩
end Go.Proofs.Ytkcclaljhedmjaa

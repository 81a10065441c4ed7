import Derived.Test.YtkcclaljhedmjaaA7
import Derived.Test.YtkcclaljhedmjaaA8
import Derived.Laws.MakeOwn
import Derived.OwnWalk
namespace Go.Proofs.Ytkcclaljhedmjaa
open Go.RowKit Go.Maps Go.Lib
theorem info5 : (Try.prog.info? 5).map (fun i => (i.zero, i.size, i.bytes)) = some (some (.int .u8 0), 1, 1) := by kernel_rfl
/-- bytes 0 -/
theorem mk_bytes (w : World) (n : Nat) (hn : n ≤ 1000000) : (Instr.makeSlice 61 (.int .i64 (n : Int)) (.int .i64 (n : Int))).run Try.prog w = .ok (.slice (some ⟨w.heap.size, 0, none⟩) n n) (w.alloc (.cells (cellsOf (List.replicate n 0)) 5)) := by
  obtain ⟨i0, hi, hz0, hz1, hz2⟩ := info_parts info5
  have := run_make (w := w) (P := Try.prog) 61 5 i0 _ Try.underlying61 hi hz0 .i64 .i64 (n : Int) (n : Int) (by omega) (by omega) (by rw [hz2]; omega) (by omega)
  rw [this]
  have e : madeCells (Value.int .u8 0).cells ((n : Int).toNat * i0.size) = cellsOf (List.replicate n 0) := by
    rw [hz1]
    apply Array.ext
    · simp [madeCells, cellsOf]
    · intro i h1 h2
      simp [madeCells, cellsOf, Value.cells, Nat.mod_one]
  rw [e]
  simp
theorem row_cell {w : World} {b : Nat} {xs : List Nat} {ty : TypeId} (h : w.heap[b]? = some (.cells (cellsOf xs) ty)) {k : Nat} (hk : k < xs.length) : ∃ v, w.cell? ⟨b, k, none⟩ = some v := by
  have : k < (cellsOf xs).size := by simpa [cellsOf] using hk
  exact ⟨_, cell_of h k _ (Array.getElem?_eq_getElem this)⟩
def LePost (x : Nat) (w : World) (e : Ending) (w' : World) : Prop := e = .returned (.tuple #[.string (strB (le4 x)), .int .i64 0]) ∧ Kp (fun _ => False) w w'
/-- the first k bytes are laid -/
def leRow (x k : Nat) : List Nat := (le4 x).take k ++ List.replicate (4 - k) 0
theorem cells_set (xs : List Nat) (k v : Nat) : (cellsOf xs).setIfInBounds k (.int .u8 (v : Int)) = cellsOf (xs.set k v) := by
  apply Array.ext
  · simp [cellsOf]
  · intro i h1 h2
    simp only [cellsOf, List.setIfInBounds_toArray, List.getElem_toArray, ← List.map_set]
theorem le_cells (x k : Nat) (hk : k < 4) : (leRow x k).set k (x / 256 ^ k % 256) = leRow x (k + 1) := by
  obtain rfl | rfl | rfl | rfl : k = 0 ∨ k = 1 ∨ k = 2 ∨ k = 3 := by omega
  all_goals simp [leRow, le4, List.replicate_succ]
theorem le_val (x k : Nat) (hk : k < 4) : ((x : Int) / 2 ^ (8 * k) % 256) = ((x / 256 ^ k % 256 : Nat) : Int) := by
  obtain rfl | rfl | rfl | rfl : k = 0 ∨ k = 1 ∨ k = 2 ∨ k = 3 := by omega
  all_goals simp
def LeRel (x : Nat) (w : World) (i : Value) (wr : World) : Prop := ∃ k : Nat, k ≤ 4 ∧ i = .int .i64 k ∧ wr.heap[w.heap.size]? = some (.cells (cellsOf (leRow x k)) 5) ∧ Kp (fun _ => False) w wr
set_option maxHeartbeats 1000000 in
set_option maxRecDepth 100000 in
theorem le_any (x : Nat) (hx : x < 65536) (w : World) : Calls Try.prog 57 #[.int .u64 x, .int .i64 4] w (LePost x w) := by
  have g1 : (x : Int) / 4294967296 = 0 := by omega
  have hmk : (Instr.makeSlice 61 (.int .i64 4) (.int .i64 4)).run Try.prog w = _ := mk_bytes w 4 (by omega)
  have h0 : (w.alloc (.cells (cellsOf (List.replicate 4 0)) 5)).heap[w.heap.size]? = some (.cells (cellsOf (leRow x 0)) 5) := heap_alloc_new w _
  have hk0 := kp_alloc (fun _ => False) w (.cells (cellsOf (List.replicate 4 0)) 5)
  go_enter Try.func57, Try.ntmps57
  go_wp2
  go_loopw [29] (fun i wr => LeRel x w i wr) (fun i _ => 4 - (intOf i).toNat)
  case atStart => exact ⟨0, by omega, rfl, h0, hk0⟩
  case round =>
    obtain ⟨k, hk, rfl, hr, hkp⟩ := hrel
    by_cases hlt : k < 4
    · have g3 : decide ((k : Int) < 4) = true := by simp; omega
      have hz := frozen_of hr k
      obtain ⟨v, hv⟩ := row_cell hr (k := k) (by simp [leRow, le4]; omega)
      go_wp2
      refine ⟨⟨k + 1, by omega, by simp, ?_, hkp.own (kp_set1 _ _ _ _) (Nat.le_refl _)⟩, by simp [intOf]; omega⟩
      rw [le_val x k hlt, ← le_cells x k hlt, ← cells_set]
      exact set_blk hr k _
    · have g3 : decide ((k : Int) < 4) = false := by simp; omega
      obtain rfl : k = 4 := by omega
      have e4 : leRow x 4 = le4 x := by simp [leRow, le4]
      rw [e4] at hr
      have hcv : (convert 61 9 (.slice (some ⟨w.heap.size, 0, none⟩) 4 4)).run Try.prog wr = .ok (.string (strB (le4 x))) wr := run_convert_bytes_arg wr 61 5 Try.underlying61 Try.underlying5 w.heap.size 0 4 4 _ (by simp [le4]) (fun i hi => by
        refine cell_of hr _ _ ?_
        simp only [le4, cellsOf]
        obtain rfl | rfl | rfl | rfl : i = 0 ∨ i = 1 ∨ i = 2 ∨ i = 3 := by omega
        all_goals simp) 9 Try.underlying9
      go_wp2
      go_ret2
      exact ⟨rfl, hkp⟩
end Go.Proofs.Ytkcclaljhedmjaa

import Derived.Test.YtkcclaljhedmjaaA1
import Derived.Laws.BytesArg
import Derived.Lib.BufferWrite
namespace Go.Proofs.Ytkcclaljhedmjaa
open Go.RowKit Go.Maps
/-- bytes as a text -/
def strB (xs : List Nat) : ByteArray := strOfNums (xs.map fun b : Nat => (b : Int))
theorem strB_size (xs : List Nat) : (strB xs).size = xs.length := by simp [strB, strOfNums_size]
/-- a text's bytes -/
def bytesOf (s : ByteArray) : List Nat := s.data.toList.map UInt8.toNat
theorem bytesOf_length (s : ByteArray) : (bytesOf s).length = s.size := by unfold bytesOf; rw [List.length_map]; exact Array.length_toList
theorem bytesOf_lt (s : ByteArray) : ∀ b ∈ bytesOf s, b < 256 := by
  intro b hb
  obtain ⟨u, _, rfl⟩ := List.mem_map.1 hb
  exact u.toNat_lt
theorem strB_bytesOf (s : ByteArray) : strB (bytesOf s) = s := by
  cases s with | mk d =>
  simp [strB, strOfNums, bytesOf, Function.comp_def]
theorem bytesOf_strB (xs : List Nat) (h : ∀ b ∈ xs, b < 256) : bytesOf (strB xs) = xs := by
  simp only [bytesOf, strB, strOfNums, List.map_map]
  apply List.ext_getElem (by simp)
  intro i h1 h2
  have := h xs[i] (List.getElem_mem _)
  simp
  omega
theorem DiskAt.cell {w : World} {d ib n : Nat} {f : Nat → List Nat} {off cut : Bool} {left writes : Int} (h : DiskAt w d ib n f off cut left writes) {k i : Nat} (hk : k < n) (hi : i < 256) : w.cell? ⟨ib, 256 * k + i, none⟩ = some (.int .u8 (((f k).map fun b : Nat => (b : Int)).getD i 0)) := by
  have hl := h.len k
  have hf := flat_get h.len n k i hk hi
  rw [List.getElem?_eq_getElem (show i < (f k).length by omega)] at hf
  refine cell_of h.img _ _ ?_
  simp [cellsOf, hf, List.getElem?_eq_getElem (show i < (f k).length by omega)]
/-- what Read tells -/
def ReadPost (n : Nat) (f : Nat → List Nat) (off : Bool) (at_ : Int) (w : World) (e : Ending) (w' : World) : Prop := w' = w ∧
  e = .returned (bif off then .tuple #[.string ByteArray.empty, .int .i64 603] else bif decide (0 ≤ at_) && decide (at_ < n) then .tuple #[.string (strB (f at_.toNat)), .int .i64 0] else .tuple #[.string ByteArray.empty, .int .i64 601])
set_option maxHeartbeats 1000000 in
theorem dread_any (w : World) (d ib n : Nat) (f : Nat → List Nat) (off cut : Bool) (left writes : Int) (at_ : Int) (hn : 256 * n ≤ 1000000) (h : DiskAt w d ib n f off cut left writes) : Calls Try.prog 39 #[.pointer (some ⟨d, 0, none⟩), .int .i64 at_] w (ReadPost n f off at_ w) := by
  have hb := block_any w d ib n off _ _ _ at_ hn h.row
  have hnil : ∀ l c, (convert 61 9 (.slice none l c)).run Try.prog w = .ok (.string ByteArray.empty) w := fun l c => run_convert_bytes_nil w 61 5 Try.underlying61 Try.underlying5 l c 9 Try.underlying9
  have hcv : ∀ k c, k < n → (convert 61 9 (.slice (some ⟨ib, 256 * k, none⟩) 256 c)).run Try.prog w = .ok (.string (strB (f k))) w := fun k c hk => run_convert_bytes_arg w 61 5 Try.underlying61 Try.underlying5 ib (256 * k) 256 c _ (by simp [h.len]) (fun i hi => h.cell hk hi) 9 Try.underlying9
  unfold BlockPost at hb
  unfold ReadPost
  cases hoff : off
  · subst hoff
    cases hin : decide (0 ≤ at_) && decide (at_ < n)
    · simp only [hin, cond_false] at hb
      have hnil2 := hnil 0 0
      go_enter Try.func39, Try.ntmps39
      go_wp2_with (go_at_call 55; refine Calls.mono hb ?_; rintro e w' ⟨rfl, rfl⟩)
      go_ret2
      exact ⟨rfl, rfl⟩
    · simp only [hin, cond_false, cond_true] at hb
      have hk : at_.toNat < n := by simp at hin; omega
      have hcv2 := hcv at_.toNat (256 * n - 256 * at_.toNat) hk
      go_enter Try.func39, Try.ntmps39
      go_wp2_with (go_at_call 55; refine Calls.mono hb ?_; rintro e w' ⟨rfl, rfl⟩)
      go_ret2
      exact ⟨rfl, rfl⟩
  · subst hoff
    simp only [cond_true] at hb
    have hnil2 := hnil 0 0
    go_enter Try.func39, Try.ntmps39
    go_wp2_with (go_at_call 55; refine Calls.mono hb ?_; rintro e w' ⟨rfl, rfl⟩)
    go_ret2
    exact ⟨rfl, rfl⟩
end Go.Proofs.Ytkcclaljhedmjaa

import Derived.Test.YtkcclaljhedmjaaA4
import Derived.Lib.EndianBits
namespace Go.Proofs.Ytkcclaljhedmjaa
open Go.RowKit Go.Maps Go.Lib
/-- the lowest bytes first -/
def leN : List Nat → Nat
  | [] => 0
  | b :: r => b + 256 * leN r
theorem leN_four (s : List Nat) (h : s.length = 4) : leN s = ofLe4 s := by
  match s, h with
  | [a, b, c, d], _ => simp [leN, ofLe4]; omega
theorem leN_lt (l : List Nat) (h : ∀ b ∈ l, b < 256) : leN l < 256 ^ l.length := by
  induction l with
  | nil => simp [leN]
  | cons b r ih =>
    have h1 := ih fun x hx => h x (by simp [hx])
    have h2 := h b (by simp)
    rw [leN, List.length_cons, Nat.pow_succ]
    omega
theorem leN_snoc (l : List Nat) (b : Nat) : leN (l ++ [b]) = leN l + b * 256 ^ l.length := by
  induction l with
  | nil => simp [leN]
  | cons a r ih =>
    rw [List.cons_append, leN, ih, leN, List.length_cons, Nat.pow_succ, Nat.mul_add, ← Nat.mul_assoc, Nat.mul_comm 256 b, Nat.mul_assoc b, Nat.mul_comm 256 (256 ^ r.length)]
    omega
theorem or_shift (k Y b : Nat) (hk : k < 8) (hY : Y < 256 ^ k) (hb : b < 256) : bits .or .u64 (Y : Int) (IntKind.u64.wrap (IntKind.u64.wrap (b : Int) * 2 ^ (8 * k))) = ((Y + b * 256 ^ k : Nat) : Int) := by
  rw [IntKind.wrap_u64, IntKind.wrap_u64]
  have hj := fun (x : Int) i a c e f => bits_join_low .u64 64 (by decide) (fun n h0 h1 => by rw [IntKind.wrap_u64]; omega) i (Y : Int) x (by omega) a c (e : 0 ≤ x) f
  match k, hk with
  | 0, _ => rw [hj _ 0 (by simp at hY ⊢; omega) (by simp at hY ⊢; omega) (by omega) (by omega) (by omega)]; simp; omega
  | 1, _ => rw [hj _ 8 (by simp at hY ⊢; omega) (by simp at hY ⊢; omega) (by omega) (by omega) (by omega)]; simp; omega
  | 2, _ => rw [hj _ 16 (by simp at hY ⊢; omega) (by simp at hY ⊢; omega) (by omega) (by omega) (by omega)]; simp; omega
  | 3, _ => rw [hj _ 24 (by simp at hY ⊢; omega) (by simp at hY ⊢; omega) (by omega) (by omega) (by omega)]; simp; omega
  | 4, _ => rw [hj _ 32 (by simp at hY ⊢; omega) (by simp at hY ⊢; omega) (by omega) (by omega) (by omega)]; simp; omega
  | 5, _ => rw [hj _ 40 (by simp at hY ⊢; omega) (by simp at hY ⊢; omega) (by omega) (by omega) (by omega)]; simp; omega
  | 6, _ => rw [hj _ 48 (by simp at hY ⊢; omega) (by simp at hY ⊢; omega) (by omega) (by omega) (by omega)]; simp; omega
  | 7, _ => rw [hj _ 56 (by simp at hY ⊢; omega) (by simp at hY ⊢; omega) (by omega) (by omega) (by omega)]; simp; omega
theorem ofle_step (s : ByteArray) (k : Nat) (hk : k < s.size) (h8 : s.size ≤ 8) : bits .or .u64 (leN ((bytesOf s).take k)) (IntKind.u64.wrap (IntKind.u64.wrap (s[k].toNat : Int) * 2 ^ (8 * k))) = (leN ((bytesOf s).take (k + 1)) : Int) := by
  have hl := bytesOf_length s
  have hlt : ((bytesOf s).take k).length = k := by simp [hl]; omega
  have e : (bytesOf s).take (k + 1) = (bytesOf s).take k ++ [s[k].toNat] := by
    rw [List.take_add_one]
    congr 1
    have : (bytesOf s)[k]? = some s[k].toNat := by
      simp [bytesOf, ByteArray.getElem_eq_getElem_data]
      exact ⟨s[k], by simp [ByteArray.getElem_eq_getElem_data], rfl⟩
    rw [this]; rfl
  have hY := leN_lt ((bytesOf s).take k) fun b hb => bytesOf_lt s b (List.mem_of_mem_take hb)
  rw [hlt] at hY
  rw [or_shift k _ _ (by omega) hY s[k].toNat_lt, e, leN_snoc, hlt]
def OfLePost (s : ByteArray) (w : World) (e : Ending) (w' : World) : Prop := e = .returned (.tuple #[.int .u64 (leN (bytesOf s)), .int .i64 0]) ∧ w' = w
set_option maxHeartbeats 1000000 in
theorem ofle_any (s : ByteArray) (h1 : 1 ≤ s.size) (h8 : s.size ≤ 8) (w : World) : Calls Try.prog 41 #[.string s] w (OfLePost s w) := by
  have g1 : decide ((s.size : Int) < 1) = false := by simp; omega
  have g2 : decide ((8 : Int) < (s.size : Int)) = false := by simp; omega
  go_enter Try.func41, Try.ntmps41
  go_wp2
  go_loopw [4, 16] (fun x i wr => ∃ (k : Nat), x = .int .u64 (leN ((bytesOf s).take k)) ∧ i = .int .i64 k ∧ k ≤ s.size ∧ wr = w) (fun _ i _ => s.size - (intOf i).toNat)
  case atStart => exact ⟨0, rfl, rfl, by omega, rfl⟩
  case round =>
    obtain ⟨k, rfl, rfl, hk, rfl⟩ := hrel
    by_cases hlt : k < s.size
    · have g3 : decide ((k : Int) < (s.size : Int)) = true := by simp; omega
      have hst := ofle_step s k hlt h8
      go_wp2
      exact ⟨⟨k + 1, rfl, by simp, by omega, trivial⟩, by simp [intOf]; omega⟩
    · have g3 : decide ((k : Int) < (s.size : Int)) = false := by simp; omega
      have hkk : k = s.size := by omega
      go_wp2
      go_ret2
      refine ⟨?_, rfl⟩
      rw [hkk, List.take_of_length_le (by rw [bytesOf_length]; exact Nat.le_refl _)]
      rfl
end Go.Proofs.Ytkcclaljhedmjaa

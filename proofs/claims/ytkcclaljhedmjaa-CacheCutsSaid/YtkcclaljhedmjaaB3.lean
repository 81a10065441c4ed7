/- The head's bytes: strings.Builder by the library's contracts. No conditions. -/
import Derived.Test.YtkcclaljhedmjaaB2
import Derived.Test.YtkcclaljhedmjaaSb
import Derived.Shelf.Strings.BuilderK
import Derived.Laws.AppendOwnNone
namespace Go.Proofs.Ytkcclaljhedmjaa
open Go.RowKit Go.Maps Go.Lib
theorem builderX : Builder.Extra Try.prog Try.lays105_ren where
  sizeBuilder := by kernel_rfl
  liesBuilder := by kernel_rfl
  t5 := Try.underlying5
  a5 := Try.isAgg5
  z5 := Try.sizeOf5
  v5 := Try.zeroValue5
  infoByte := by kernel_rfl
  cellsByte := by kernel_rfl
  sizeByte := by kernel_rfl
  neB5 := by decide
theorem kp_below {w w' : World} (h : Below w.heap.size w w') : Kp (fun _ => False) w w' := ⟨h.os, h.tape, h.output, h.size, fun k hk _ => h.block k hk⟩
theorem kp_belowB {w0 w w' : World} {B : Nat} (h0 : Kp (fun _ => False) w0 w) (h : Below B w w') (hB : w0.heap.size ≤ B) : Kp (fun _ => False) w0 w' :=
  ⟨h.os.trans h0.os, h.tape.trans h0.tape, h.output.trans h0.output, Nat.le_trans h0.size h.size, fun k hk hn => (h.block k (by omega)).trans (h0.block k hk hn)⟩
def u8s (xs : List Nat) : List UInt8 := xs.map UInt8.ofNat
theorem strB_u8s (xs : List Nat) : strB xs = ⟨(u8s xs).toArray⟩ := by simp [strB, strOfNums, u8s]
theorem u8s_app (xs ys : List Nat) : u8s (xs ++ ys) = u8s xs ++ u8s ys := by simp [u8s]
theorem strCells_strB (xs : List Nat) : strCells (strB xs) = byteCells (u8s xs) := by rw [strB_u8s]; rfl
/-- numbers in a row -/
def intsC (ks : List Nat) : List Value := ks.map fun k : Nat => Value.int .i64 (k : Int)
def IntsAt (w : World) (v : Value) (ks : List Nat) : Prop := (v = .slice none 0 0 ∧ ks = []) ∨ ∃ g c cur, v = .slice (some ⟨g, 0, none⟩) ks.length c ∧ 0 < ks.length ∧ w.heap[g]? = some (.cells cur 3) ∧ ∀ j, j < ks.length → cur[j]? = (intsC ks)[j]?
theorem info3 : (Try.prog.info? 3).map (fun i => (i.zero, i.size, i.bytes)) = some (some (.int .i64 0), 1, 8) := by kernel_rfl
theorem IntsAt.kp {w w' : World} {v : Value} {ks : List Nat} (h : IntsAt w v ks) (hk : ∀ b cur, v.ownBlock = some b → w.heap[b]? = some (.cells cur 3) → w'.heap[b]? = w.heap[b]?) : IntsAt w' v ks := by
  rcases h with h | ⟨g, c, cur, rfl, h0, hg, hc⟩
  · exact .inl h
  · exact .inr ⟨g, c, cur, rfl, h0, (hk g cur rfl hg).trans hg, hc⟩
theorem addr0 (g j : Nat) : (⟨g, 0, none⟩ : Addr).add j = ⟨g, j, none⟩ := by unfold Addr.add; split <;> simp_all
/-- the count ahead of the homes -/
theorem app_any (W : World) (b1 : Nat) (src : Value) (ks : List Nat) (n : Nat) (hb : W.heap[b1]? = some (.cells #[.int .i64 (n : Int)] 3)) (hn : n = ks.length) (hks : ks.length ≤ 40) (hs : IntsAt W src ks) :
    ∃ g2 c2 w3, (Builtin.append_ #[63, 63] 63 #[.slice (some ⟨b1, 0, none⟩) 1 1, src]).run Try.prog W = .ok (.slice (some ⟨g2, 0, none⟩) (n + 1) c2) w3 ∧ IntsAt w3 (.slice (some ⟨g2, 0, none⟩) (n + 1) c2) (n :: ks) ∧ Kp (fun _ => False) W w3 := by
  obtain ⟨i0, hi, hz0, hz1, hz2⟩ := info_parts info3
  rcases hs with ⟨rfl, rfl⟩ | ⟨g, c, cur, rfl, h0, hg, hc⟩
  · subst hn
    refine ⟨b1, 1, W, ?_, .inr ⟨b1, 1, _, rfl, by simp, hb, ?_⟩, kp_refl _ _⟩
    · exact run_append_owned_none (P := Try.prog) (w := W) 0 63 63 3 i0 1 Try.underlying63 hi (.slice (some ⟨b1, 0, none⟩) 1 1) 1 [.int .i64 (([] : List Nat).length : Int)] ⟨rfl, .inr ⟨b1, 1, _, rfl, Nat.zero_le _, hb, by omega, by unfold maxLen; omega, rfl, rfl⟩⟩
    · intro j hj
      obtain rfl : j = 0 := by simp at hj; omega
      rfl
  · have hl : (intsC ks).length = ks.length * 1 := by simp [intsC]
    obtain ⟨v', w3, hrun, hown, hgr⟩ := run_append_arg_grows (P := Try.prog) W 63 63 3 i0 _ 1 8 Try.underlying63 hi hz0 hz1 hz2 rfl (by omega) ⟨b1, 0, none⟩ 1 1 [.int .i64 (n : Int)] rfl (by
      intro j u hu
      rw [addr0]
      obtain rfl : j = 0 := by rcases j with _ | j; rfl; simp at hu
      exact cell_of hb 0 _ (by simpa using hu)) ⟨g, 0, none⟩ ks.length c (intsC ks) hl (by
      intro j u hu
      rw [addr0]
      have hj : j < ks.length := by have := (List.getElem?_eq_some_iff.1 hu).1; omega
      exact cell_of hg j _ ((hc j hj).trans hu)) (by omega) (by unfold maxLen; omega) (by omega)
    rcases hown.2 with ⟨e, h⟩ | ⟨g2, cap, cur2, e, hB, hg2, hnc, hcm, hsz, htake⟩
    · omega
    · subst e
      refine ⟨g2, cap, w3, by rw [hrun, hn, Nat.add_comm], .inr ⟨g2, cap, cur2, by rw [List.length_cons, hn], by simp, hg2, fun j hj => ?_⟩, ⟨hgr.os, hgr.tape, hgr.output, hgr.size, fun k hk _ => hgr.block k hk (by simp)⟩⟩
      have hj2 : j < 1 + ks.length := by simp at hj; omega
      have e1 : cur2.toList[j]? = (cur2.toList.take ((1 + ks.length) * 1))[j]? := by rw [List.getElem?_take, if_pos (by omega)]
      rw [← Array.getElem?_toList, e1, htake]
      rfl
end Go.Proofs.Ytkcclaljhedmjaa

/- The cache in memory: ring, room, New, a block more. No conditions. -/
import Derived.Test.YtkcclaljhedmjaaB4
import Derived.ArgAppend
import Derived.Laws.Append
import Derived.Test.YtkcclaljhedmjaaB6
import Derived.Test.YtkcclaljhedmjaaJ1
import Derived.Deep.QuietTactic
import Derived.BigQuiet
import Derived.StillTailTactics
namespace Go.Proofs.Ytkcclaljhedmjaa
section
open Go.RowKit Go.Maps Go.Lib
/-- a slice of numbers in a row of its own -/
def RingAt (w : World) (v : Value) (xs : List Nat) : Prop := (v = .slice none 0 0 ∧ xs = []) ∨ ∃ b off cap cur, v = .slice (some ⟨b, off, none⟩) xs.length cap ∧ w.heap[b]? = some (.cells cur 3) ∧ off + cap ≤ cur.size ∧ xs.length ≤ cap ∧ cap ≤ maxLen ∧ ∀ j, j < xs.length → cur[off + j]? = (intsC xs)[j]?
/-- the ring's own block -/
def ringB : Value → Option Nat
  | .slice (some a) _ _ => some a.block
  | _ => none
theorem RingAt.kp {w w' : World} {v : Value} {xs : List Nat} {F : Nat → Prop} (h : RingAt w v xs) (hk : Kp F w w') (hn : ∀ b, ringB v = some b → ¬ F b) : RingAt w' v xs := by
  rcases h with h | ⟨b, off, cap, cur, rfl, hb, h1, h2, h3, h4⟩
  · exact .inl h
  · exact .inr ⟨b, off, cap, cur, rfl, (hk.block b (blk_lt hb) (hn b rfl)).trans hb, h1, h2, h3, h4⟩
theorem RingAt.lt {w : World} {v : Value} {xs : List Nat} (h : RingAt w v xs) {b : Nat} (hb : ringB v = some b) : b < w.heap.size := by
  rcases h with ⟨rfl, _⟩ | ⟨b', off, cap, cur, rfl, hb', _⟩
  · cases hb
  · cases hb
    exact blk_lt hb'
theorem RingAt.shape {w : World} {v : Value} {xs : List Nat} (h : RingAt w v xs) : ∃ ao c, v = .slice ao xs.length c := by
  rcases h with ⟨rfl, rfl⟩ | ⟨b, off, cap, cur, rfl, _⟩
  · exact ⟨none, 0, rfl⟩
  · exact ⟨_, _, rfl⟩
theorem intsC_get {xs : List Nat} {j x : Nat} (h : xs[j]? = some x) : (intsC xs)[j]? = some (.int .i64 (x : Int)) := by simp [intsC, h]
theorem RingAt.cell {w : World} {b off n c j x : Nat} {xs : List Nat} (h : RingAt w (.slice (some ⟨b, off, none⟩) n c) xs) (hx : xs[j]? = some x) : w.cell? ⟨b, off + j, none⟩ = some (.int .i64 (x : Int)) := by
  have hj : j < xs.length := (List.getElem?_eq_some_iff.1 hx).1
  rcases h with ⟨e, _⟩ | ⟨b', off', cap, cur, e, hb, _, _, _, h4⟩
  · cases e
  · simp only [Value.slice.injEq, Option.some.injEq, Addr.mk.injEq] at e
    obtain ⟨⟨rfl, rfl, _⟩, rfl, rfl⟩ := e
    exact cell_of hb _ _ ((h4 j hj).trans (intsC_get hx))
/-- without the first -/
theorem RingAt.tail {w : World} {b off n c x : Nat} {xs : List Nat} (h : RingAt w (.slice (some ⟨b, off, none⟩) n c) (x :: xs)) : RingAt w (.slice (some ⟨b, off + 1, none⟩) xs.length (c - 1)) xs := by
  rcases h with ⟨e, _⟩ | ⟨b', off', cap, cur, e, hb, h1, h2, h3, h4⟩
  · cases e
  · simp only [Value.slice.injEq, Option.some.injEq, Addr.mk.injEq] at e
    obtain ⟨⟨rfl, rfl, _⟩, rfl, rfl⟩ := e
    simp only [List.length_cons] at h2
    refine .inr ⟨b, off + 1, c - 1, cur, rfl, hb, by omega, by omega, by omega, fun j hj => ?_⟩
    have := h4 (j + 1) (by simp; omega)
    rw [show off + 1 + j = off + (j + 1) by omega, this]
    simp [intsC]
/-- without the last -/
theorem RingAt.init {w : World} {ao : Option Addr} {n c x : Nat} {xs : List Nat} (h : RingAt w (.slice ao n c) (xs ++ [x])) : RingAt w (.slice ao xs.length c) xs := by
  rcases h with ⟨_, e⟩ | ⟨b', off', cap, cur, e, hb, h1, h2, h3, h4⟩
  · simp at e
  · simp only [Value.slice.injEq] at e
    obtain ⟨rfl, rfl, rfl⟩ := e
    simp only [List.length_append, List.length_singleton] at h2
    refine .inr ⟨b', off', c, cur, rfl, hb, h1, by omega, h3, fun j hj => ?_⟩
    have := h4 j (by simp; omega)
    rw [this]
    simp only [intsC, List.map_append]
    rw [List.getElem?_append_left (by simpa using hj)]
/-- what append leaves -/
def AppPost (v : Value) (xs : List Nat) (x : Nat) (w : World) (v' : Value) (w' : World) : Prop :=
  RingAt w' v' (xs ++ [x]) ∧ Kp (fun i => ringB v = some i) w w' ∧ (ringB v' = ringB v ∨ ∃ g, ringB v' = some g ∧ w.heap.size ≤ g) ∧ ∃ ad c, v' = .slice (some ad) (xs.length + 1) c
theorem ring_grown {w w' : World} {v' : Value} {v : Value} {xs : List Nat} {x : Nat} (hown : w'.ownsRow w.heap.size 3 1 v' (xs.length + 1) (intsC xs ++ [.int .i64 (x : Int)])) (hgr : w.grownBy w' none) : AppPost v xs x w v' w' := by
  rcases hown.2 with ⟨e, h⟩ | ⟨g, cap, cur, e, hB, hg, hnc, hcm, hsz, htake⟩
  · omega
  · subst e
    refine ⟨.inr ⟨g, 0, cap, cur, by simp, hg, by omega, by simpa using hnc, hcm, fun j hj => ?_⟩, ⟨hgr.os, hgr.tape, hgr.output, hgr.size, fun k hk _ => hgr.block k hk (by simp)⟩, .inr ⟨g, rfl, hB⟩, _, _, rfl⟩
    have hj2 : j < xs.length + 1 := by simpa using hj
    have e1 : cur.toList[j]? = (cur.toList.take ((xs.length + 1) * 1))[j]? := by rw [List.getElem?_take, if_pos (by omega)]
    rw [Nat.zero_add, ← Array.getElem?_toList, e1, htake]
    simp [intsC]
theorem ring_app (w : World) (b1 : Nat) (v : Value) (xs : List Nat) (x : Nat) (hb1 : w.heap[b1]? = some (.cells #[.int .i64 (x : Int)] 3)) (h : RingAt w v xs) (hlen : xs.length ≤ 10000) :
    ∃ v' w', (Builtin.append_ #[63, 63] 63 #[v, .slice (some ⟨b1, 0, none⟩) 1 1]).run Try.prog w = .ok v' w' ∧ AppPost v xs x w v' w' := by
  obtain ⟨i0, hi, hz0, hz1, hz2⟩ := info_parts info3
  have hnews : ∀ j u, ([Value.int .i64 (x : Int)] : List Value)[j]? = some u → w.cell? ((⟨b1, 0, none⟩ : Addr).add j) = some u := by
    intro j u hu
    rw [addr0]
    obtain rfl : j = 0 := by rcases j with _ | j; rfl; simp at hu
    exact cell_of hb1 0 _ (by simpa using hu)
  rcases h with ⟨rfl, rfl⟩ | ⟨b, off, cap, cur, rfl, hb, h1, h2, h3, h4⟩
  · have hr := run_append_nil (P := Try.prog) w 63 63 3 i0 _ Try.underlying63 hi hz0 ⟨b1, 0, none⟩ 1 1 [.int .i64 (x : Int)] (by rw [hz1]; rfl) hnews (by omega) (by omega) (by rw [hz2]; omega)
    have hge := grownCap_ge w 1 0 3
    have hcm : grownCap w 1 0 3 ≤ maxLen := grownCap_le_maxLen w 1 0 3 (by unfold maxLen; omega)
    refine ⟨_, _, hr, .inr ⟨w.heap.size, 0, _, _, rfl, heap_alloc_new w.drew _, ?_, hge, hcm, ?_⟩, ⟨rfl, rfl, rfl, by simp, fun k hk _ => heap_alloc_old w.drew _ hk⟩, .inr ⟨w.heap.size, rfl, Nat.le_refl _⟩, _, _, rfl⟩
    · have ec : (Value.int .i64 0).cells.size = 1 := rfl
      simp only [Array.size_append, List.size_toArray, size_zeroCells, ec, List.length_singleton]
      omega
    · intro j hj
      obtain rfl : j = 0 := by simp at hj; omega
      rw [Array.getElem?_append_left (by simp)]
      simp [intsC]
  · by_cases hroom : xs.length + 1 ≤ cap
    · have hcell : ∃ u, cur[off + xs.length]? = some u := ⟨_, Array.getElem?_eq_getElem (by omega)⟩
      obtain ⟨u, hu⟩ := hcell
      have hr := run_append_room_cells (P := Try.prog) w 63 63 3 i0 Try.underlying63 hi b off xs.length cap ⟨b1, 0, none⟩ 1 1 [.int .i64 (x : Int)] (by rw [hz1]; rfl) hnews (by simp [Value.oneCell']) hroom (by
        intro j hj
        obtain rfl : j = 0 := by simp at hj; omega
        rw [hz1, Nat.mul_one, Nat.add_zero, cell_of hb _ _ hu]; rfl) (fun j hj => frozen_of hb _)
      have e : w.setCells b (off + xs.length * i0.size) [.int .i64 (x : Int)] = w.setCell ⟨b, off + xs.length, none⟩ (.int .i64 (x : Int)) := by rw [hz1, Nat.mul_one]; rfl
      rw [e] at hr
      refine ⟨_, _, hr, .inr ⟨b, off, cap, _, by simp, set_blk hb _ _, by simpa using h1, by simpa using hroom, h3, fun j hj => ?_⟩, (kp_set1 w b _ _).imp fun k hk => by rw [hk]; rfl, .inl rfl, _, _, rfl⟩
      rw [Array.getElem?_setIfInBounds]
      split
      · rename_i he
        obtain rfl : j = xs.length := by omega
        rw [if_pos (by omega)]
        simp [intsC]
      · rename_i he
        have hj2 : j < xs.length := by simp at hj; omega
        rw [h4 j hj2]
        simp only [intsC, List.map_append]
        rw [List.getElem?_append_left (by simpa using hj2)]
    · obtain ⟨v', w3, hrun, hown, hgr⟩ := run_append_arg_grows (P := Try.prog) w 63 63 3 i0 _ 1 8 Try.underlying63 hi hz0 hz1 hz2 rfl (by omega) ⟨b, off, none⟩ xs.length cap (intsC xs) (by simp [intsC]) (by
        intro j u hu
        have hj : j < xs.length := by have := (List.getElem?_eq_some_iff.1 hu).1; simpa [intsC] using this
        rw [Addr.add_lit]
        exact cell_of hb _ _ ((h4 j hj).trans hu)) ⟨b1, 0, none⟩ 1 1 [.int .i64 (x : Int)] rfl hnews (by omega) (by unfold maxLen; omega) (by omega)
      exact ⟨v', w3, hrun, ring_grown hown hgr⟩
end
section
open Go.RowKit Go.Maps Go.Lib
/-- a block that is held -/
structure Hb where
  blk : Nat
  data : ByteArray
  dirty : Bool
  pins : Nat
  seen : Bool
def Hb.row (x : Hb) : Array Value := #[.string x.data, .bool x.dirty, .int .i64 (x.pins : Int), .bool x.seen]
def Hb.need (x : Hb) : Bool := x.dirty || decide (0 < x.pins)
def ptrM (ring : List Nat) (X : Nat → Hb) : Int → Option Value := fun k => if 0 ≤ k ∧ k.toNat ∈ ring then some (.pointer (some ⟨(X k.toNat).blk, 0, none⟩)) else none
structure CAt (w : World) (cb j hb : Nat) (size : Nat) (v : Value) (ring : List Nat) (X : Nat → Hb) : Prop where
  row : w.heap[cb]? = some (.cells #[.pointer (some ⟨j, 0, none⟩), .int .i64 (size : Int), .map (some hb), v] 83)
  map : MapAt w hb (ptrM ring X) ring.length
  rng : RingAt w v ring
  nodup : ring.Nodup
  held : ∀ k ∈ ring, w.heap[(X k).blk]? = some (.cells (X k).row 88)
  inj : ∀ k ∈ ring, ∀ l ∈ ring, (X k).blk = (X l).blk → k = l
  home : ∀ k ∈ ring, 60 ≤ k ∧ k < 200
  young : (∀ b, ringB v = some b → cb ≤ b) ∧ ∀ k ∈ ring, cb ≤ (X k).blk
  cap : ring.length ≤ size
  lim : 4 ≤ size ∧ size ≤ 1024
/-- what the cache may touch -/
def Tag (cb hb : Nat) (w : World) (i : Nat) : Prop := i = cb ∨ i = hb ∨ (cb ≤ i ∧ ∃ cs, w.heap[i]? = some (.cells cs 88) ∨ w.heap[i]? = some (.cells cs 3))
def Tch (cb hb : Nat) (w w' : World) : Prop := Kp (Tag cb hb w) w w'
theorem Tch.trans {cb hb : Nat} {w w1 w2 : World} (h1 : Tch cb hb w w1) (h2 : Tch cb hb w1 w2) : Tch cb hb w w2 := by
  refine ⟨h2.os.trans h1.os, h2.tape.trans h1.tape, h2.output.trans h1.output, Nat.le_trans h1.size h2.size, fun k hk hn => ?_⟩
  have e := h1.block k hk hn
  refine (h2.block k (Nat.lt_of_lt_of_le hk h1.size) fun ht => hn ?_).trans e
  unfold Tag at ht ⊢
  rw [e] at ht
  exact ht
theorem Tch.refl {cb hb : Nat} (w : World) : Tch cb hb w w := kp_refl _ w
theorem Kp.tch {cb hb : Nat} {w w' : World} (h : Kp (fun _ => False) w w') : Tch cb hb w w' := h.imp fun _ e => e.elim
section
variable {w : World} {cb j hb size : Nat} {v : Value} {ring : List Nat} {X : Nat → Hb}
theorem ring_tag (h : RingAt w v ring) {b : Nat} (hb : ringB v = some b) : ∃ cs, w.heap[b]? = some (.cells cs 3) := by
  rcases h with ⟨rfl, _⟩ | ⟨b', off, cap, cur, rfl, hb', _⟩
  · cases hb
  · cases hb
    exact ⟨_, hb'⟩
theorem CAt.kp {w' : World} {F : Nat → Prop} (h : CAt w cb j hb size v ring X) (hk : Kp F w w') (h1 : ¬ F cb) (h2 : ¬ F hb) (h3 : ∀ b, ringB v = some b → ¬ F b) (h4 : ∀ k ∈ ring, ¬ F (X k).blk) : CAt w' cb j hb size v ring X :=
  ⟨(hk.block cb (blk_lt h.row) h1).trans h.row, h.map.kp hk h2, h.rng.kp hk h3, h.nodup, fun k hm => (hk.block _ (blk_lt (h.held k hm)) (h4 k hm)).trans (h.held k hm), h.inj, h.home, h.young, h.cap, h.lim⟩
theorem CAt.same {w' : World} (h : CAt w cb j hb size v ring X) (hk : Kp (fun _ => False) w w') : CAt w' cb j hb size v ring X := h.kp hk (fun e => e) (fun e => e) (fun _ _ e => e) (fun _ _ e => e)
theorem CAt.quiet (h : CAt w cb j hb size v ring X) (q : Nat) : CAt (w.drewN q) cb j hb size v ring X := h.same ((kp_refl (fun _ => False) w).drewN q)
theorem CAt.ne (h : CAt w cb j hb size v ring X) : cb ≠ hb ∧ (∀ b, ringB v = some b → b ≠ cb ∧ b ≠ hb) ∧ ∀ k ∈ ring, (X k).blk ≠ cb ∧ (X k).blk ≠ hb ∧ ∀ b, ringB v = some b → (X k).blk ≠ b := by
  have h1 := h.row
  obtain ⟨es, clock, h4, _⟩ := h.map
  refine ⟨?_, fun b hb => ?_, fun k hk => ?_⟩
  · rintro rfl; simp_all
  · obtain ⟨cs, h5⟩ := ring_tag h.rng hb
    constructor <;> rintro rfl <;> simp_all
  · have h6 := h.held k hk
    refine ⟨fun e => ?_, fun e => ?_, fun b hb e => ?_⟩
    · rw [e, h1] at h6; simp at h6
    · rw [e, h4] at h6; simp at h6
    · obtain ⟨cs, h5⟩ := ring_tag h.rng hb
      rw [e, h5] at h6; simp at h6
theorem row4 {w : World} {g : Nat} {a b c d : Value} {ty : TypeId} (h : w.heap[g]? = some (.cells #[a, b, c, d] ty)) : (w.cell? ⟨g, 0, none⟩ = some a ∧ w.cell? ⟨g, 1, none⟩ = some b ∧ w.cell? ⟨g, 2, none⟩ = some c ∧ w.cell? ⟨g, 3, none⟩ = some d) ∧
    (w.frozen? ⟨g, 0, none⟩ = false ∧ w.frozen? ⟨g, 1, none⟩ = false ∧ w.frozen? ⟨g, 2, none⟩ = false ∧ w.frozen? ⟨g, 3, none⟩ = false) :=
  ⟨⟨cell_of h 0 _ rfl, cell_of h 1 _ rfl, cell_of h 2 _ rfl, cell_of h 3 _ rfl⟩, frozen_of h 0, frozen_of h 1, frozen_of h 2, frozen_of h 3⟩
theorem ptrM_in {k : Nat} (h : k ∈ ring) : ptrM ring X (k : Int) = some (.pointer (some ⟨(X k).blk, 0, none⟩)) := by
  unfold ptrM
  rw [if_pos ⟨by omega, by simpa using h⟩, Int.toNat_natCast]
theorem ptrM_out {k : Nat} (h : k ∉ ring) : ptrM ring X (k : Int) = none := by
  unfold ptrM
  rw [if_neg fun e => h (by simpa using e.2)]
theorem ptrM_far {k : Int} (h : ¬ (0 ≤ k ∧ k.toNat ∈ ring)) : ptrM ring X k = none := by
  unfold ptrM
  rw [if_neg h]
theorem ptrM_congr {ring' : List Nat} {X' : Nat → Hb} (h1 : ∀ k, k ∈ ring' ↔ k ∈ ring) (h2 : ∀ k ∈ ring, (X' k).blk = (X k).blk) : ptrM ring' X' = ptrM ring X := by
  funext k
  unfold ptrM
  by_cases h : 0 ≤ k ∧ k.toNat ∈ ring
  · rw [if_pos h, if_pos ⟨h.1, (h1 _).2 h.2⟩, h2 _ h.2]
  · rw [if_neg h, if_neg fun e => h ⟨e.1, (h1 _).1 e.2⟩]
/-- a held block is turned -/
def updX (X : Nat → Hb) (k : Nat) (x : Hb) : Nat → Hb := fun i => if i = k then x else X i
theorem updX_same (X : Nat → Hb) (k : Nat) (x : Hb) : updX X k x k = x := by simp [updX]
theorem updX_other {X : Nat → Hb} {k i : Nat} {x : Hb} (h : i ≠ k) : updX X k x i = X i := by simp [updX, h]
theorem CAt.turn (h : CAt w cb j hb size v ring X) {k : Nat} (hk : k ∈ ring) {x : Hb} (hx : x.blk = (X k).blk) {w' : World} (hrow : w'.heap[(X k).blk]? = some (.cells x.row 88)) (hK : Kp (fun i => i = (X k).blk) w w') : CAt w' cb j hb size v ring (updX X k x) := by
  obtain ⟨n1, n2, n3⟩ := h.ne
  obtain ⟨m1, m2, m3⟩ := n3 k hk
  have hblk : ∀ l ∈ ring, (updX X k x l).blk = (X l).blk := fun l hl => by
    by_cases e : l = k
    · subst e; rw [updX_same, hx]
    · rw [updX_other e]
  refine ⟨(hK.block cb (blk_lt h.row) fun e => m1 e.symm).trans h.row, ?_, h.rng.kp hK fun b hb e => m3 b hb e.symm, h.nodup, fun l hl => ?_, fun l hl m hm e => ?_, h.home, ⟨h.young.1, fun l hl => by rw [hblk l hl]; exact h.young.2 l hl⟩, h.cap, h.lim⟩
  · rw [ptrM_congr (fun _ => Iff.rfl) hblk]
    exact h.map.kp hK fun e => m2 e.symm
  · by_cases e : l = k
    · subst e; rw [updX_same, hx]; exact hrow
    · rw [updX_other e]
      exact (hK.block _ (blk_lt (h.held l hl)) fun e2 => e (h.inj l hl k hk e2)).trans (h.held l hl)
  · rw [hblk l hl, hblk m hm] at e
    exact h.inj l hl m hm e
theorem CAt.tag_blk (h : CAt w cb j hb size v ring X) {k : Nat} (hk : k ∈ ring) : Tag cb hb w (X k).blk := .inr (.inr ⟨h.young.2 k hk, _, .inl (h.held k hk)⟩)
/-- the ring goes round by one -/
theorem CAt.rot {a : Nat} {r : List Nat} {b off n c : Nat} (h : CAt w cb j hb size (.slice (some ⟨b, off, none⟩) n c) (a :: r) X) : ∃ v' w2,
    (Builtin.append_ #[63, 63] 63 #[.slice (some ⟨b, off + 1, none⟩) r.length (c - 1), .slice (some ⟨w.heap.size, 0, none⟩) 1 1]).run Try.prog (w.alloc (.cells #[.int .i64 (a : Int)] 3)) = .ok v' w2 ∧
    CAt (w2.setCell ⟨cb, 3, none⟩ v') cb j hb size v' (r ++ [a]) X ∧ Tch cb hb w (w2.setCell ⟨cb, 3, none⟩ v') ∧ (∃ ad c', v' = .slice (some ad) (r.length + 1) c') ∧
    w2.heap[cb]? = some (.cells #[.pointer (some ⟨j, 0, none⟩), .int .i64 (size : Int), .map (some hb), .slice (some ⟨b, off, none⟩) n c] 83) := by
  obtain ⟨n1, n2, n3⟩ := h.ne
  have hrt := ring_tag h.rng (b := b) rfl
  have hbl := h.rng.lt (b := b) rfl
  have hK1 : Kp (fun _ => False) w (w.alloc (.cells #[.int .i64 (a : Int)] 3)) := kp_alloc _ w _
  have hlen : r.length ≤ 10000 := by have := h.cap; have := h.lim; simp at *; omega
  obtain ⟨v', w2, hrun, hR, hK2, hblk, ad, c', hv⟩ := ring_app (w.alloc (.cells #[.int .i64 (a : Int)] 3)) w.heap.size _ r a (heap_alloc_new w _) (h.rng.tail.kp hK1 fun _ _ e => e) hlen
  have hK12 : Kp (fun i => i = b) w w2 := (hK1.imp fun _ e => e.elim).trans (hK2.imp fun k hk => by simpa [ringB] using hk.symm)
  have hrow2 : w2.heap[cb]? = _ := (hK12.block cb (blk_lt h.row) fun e => (n2 b rfl).1 e.symm).trans h.row
  have hK3 := kp_set1 w2 cb 3 v'
  have hcb : cb < w.heap.size := blk_lt h.row
  have hv'cb : ∀ g, ringB v' = some g → g ≠ cb := fun g hg => by
    rcases hblk with e | ⟨g2, e, hlt⟩
    · rw [e] at hg
      cases hg
      exact (n2 b rfl).1
    · rw [e] at hg
      cases hg
      simp at hlt
      omega
  have hmem : ∀ k, k ∈ r ++ [a] ↔ k ∈ a :: r := fun k => by simp [or_comm]
  have hall : Kp (fun i => i = b ∨ i = cb) w (w2.setCell ⟨cb, 3, none⟩ v') := (hK12.imp fun _ e => .inl e).trans (hK3.imp fun _ e => .inr e)
  refine ⟨v', w2, hrun, ⟨?_, ?_, hR.kp hK3 hv'cb, ?_, fun k hk => ?_, fun k hk l hl => h.inj k ((hmem k).1 hk) l ((hmem l).1 hl), fun k hk => h.home k ((hmem k).1 hk), ⟨fun g hg => ?_, fun k hk => h.young.2 k ((hmem k).1 hk)⟩, by have := h.cap; simp at *; omega, h.lim⟩, ?_, ⟨ad, c', hv⟩, hrow2⟩
  · exact set_blk hrow2 3 v'
  · rw [ptrM_congr hmem fun _ _ => rfl]
    have := h.map.kp hall (fun e => by
      rcases e with e | e
      · exact (n2 b rfl).2 e.symm
      · exact n1 e.symm)
    simpa using this
  · have := h.nodup
    rw [List.nodup_cons] at this
    rw [List.nodup_append]
    exact ⟨this.2, by simp, fun x hx y hy => by simp at hy; subst hy; rintro rfl; exact this.1 hx⟩
  · have hk2 := (hmem k).1 hk
    obtain ⟨m1, m2, m3⟩ := n3 k hk2
    exact (hall.block _ (blk_lt (h.held k hk2)) (fun e => by
      rcases e with e | e
      · exact m3 b rfl e
      · exact m1 e)).trans (h.held k hk2)
  · rcases hblk with e | ⟨g2, e, hlt⟩
    · rw [e] at hg
      cases hg
      exact h.young.1 b rfl
    · rw [e] at hg
      cases hg
      simp at hlt
      omega
  · refine hall.imp fun k hk => ?_
    rcases hk with rfl | rfl
    · obtain ⟨cs, hcs⟩ := hrt
      exact .inr (.inr ⟨h.young.1 k rfl, cs, .inr hcs⟩)
    · exact .inl rfl
/-- the last of the ring is given up -/
theorem CAt.give {a : Nat} {r : List Nat} {ao : Option Addr} {n c : Nat} {w1 : World} (h : CAt w cb j hb size (.slice ao n c) (r ++ [a]) X) (hM : MapAt w1 hb (delM (ptrM (r ++ [a]) X) (a : Int)) (if (ptrM (r ++ [a]) X (a : Int)).isSome then (r ++ [a]).length - 1 else (r ++ [a]).length)) (hK : Kp (fun i => i = hb) w w1) :
    CAt (w1.setCell ⟨cb, 3, none⟩ (.slice ao r.length c)) cb j hb size (.slice ao r.length c) r X ∧ Tch cb hb w (w1.setCell ⟨cb, 3, none⟩ (.slice ao r.length c)) := by
  obtain ⟨n1, n2, n3⟩ := h.ne
  have ha : a ∉ r := by
    have := h.nodup
    rw [List.nodup_append] at this
    exact fun e => this.2.2 a e a (by simp) rfl
  have hall : Kp (fun i => i = hb ∨ i = cb) w (w1.setCell ⟨cb, 3, none⟩ (.slice ao r.length c)) := (hK.imp fun _ e => .inl e).trans ((kp_set1 w1 cb 3 _).imp fun _ e => .inr e)
  have hsub : ∀ k, k ∈ r → k ∈ r ++ [a] := fun k hk => by simp [hk]
  refine ⟨⟨?_, ?_, ?_, ?_, fun k hk => ?_, fun k hk l hl => h.inj k (hsub k hk) l (hsub l hl), fun k hk => h.home k (hsub k hk), ⟨fun b hb => h.young.1 b (by cases ao <;> exact hb), fun k hk => h.young.2 k (hsub k hk)⟩, by have := h.cap; simp at this; omega, h.lim⟩, hall.imp fun k hk => ?_⟩
  · exact set_blk ((hK.block cb (blk_lt h.row) fun e => n1 e).trans h.row) 3 _
  · rw [ptrM_in (by simp : a ∈ r ++ [a])] at hM
    have e : delM (ptrM (r ++ [a]) X) (a : Int) = ptrM r X := by
      funext k
      unfold delM
      split
      · rename_i e; subst e; rw [ptrM_out ha]
      · rename_i e
        unfold ptrM
        have : (0 ≤ k ∧ k.toNat ∈ r ++ [a]) ↔ (0 ≤ k ∧ k.toNat ∈ r) := by
          simp only [List.mem_append, List.mem_singleton]
          constructor
          · rintro ⟨h1, h2 | h2⟩
            · exact ⟨h1, h2⟩
            · exact absurd (by omega) e
          · rintro ⟨h1, h2⟩
            exact ⟨h1, .inl h2⟩
        simp only [this]
    rw [e] at hM
    have : MapAt w1 hb (ptrM r X) r.length := by simpa using hM
    exact this.kp (kp_set1 w1 cb 3 _) fun e => n1 e.symm
  · exact h.rng.init.kp hall fun b hb e => by
      have hb2 : ringB (.slice ao n c) = some b := by cases ao <;> exact hb
      rcases e with e | e
      · exact (n2 b hb2).2 e
      · exact (n2 b hb2).1 e
  · have := h.nodup
    rw [List.nodup_append] at this
    exact this.1
  · obtain ⟨m1, m2, m3⟩ := n3 k (hsub k hk)
    exact (hall.block _ (blk_lt (h.held k (hsub k hk))) (fun e => by
      rcases e with e | e
      · exact m2 e
      · exact m1 e)).trans (h.held k (hsub k hk))
  · rcases hk with rfl | rfl
    · exact .inr (.inl rfl)
    · exact .inl rfl
end
end
section
open Go.RowKit Go.Maps Go.Lib
section
variable {w : World} {cb j hb size : Nat} {v : Value} {ring : List Nat} {X : Nat → Hb}
/-- the same but for 'seen' -/
def Alike (X0 X : Nat → Hb) (k : Nat) : Prop := (X k).blk = (X0 k).blk ∧ (X k).data = (X0 k).data ∧ (X k).dirty = (X0 k).dirty ∧ (X k).pins = (X0 k).pins
def Fewer (ring0 : List Nat) (X0 : Nat → Hb) (ring : List Nat) (X : Nat → Hb) : Prop := (∀ k ∈ ring, k ∈ ring0 ∧ Alike X0 X k) ∧ ∀ k ∈ ring0, k ∉ ring → (X0 k).need = false
theorem Fewer.refl (ring0 : List Nat) (X0 : Nat → Hb) : Fewer ring0 X0 ring0 X0 := ⟨fun _ hk => ⟨hk, rfl, rfl, rfl, rfl⟩, fun _ hk hn => absurd hk hn⟩
theorem Alike.need {X0 X : Nat → Hb} {k : Nat} (h : Alike X0 X k) : (X k).need = (X0 k).need := by
  obtain ⟨_, _, h1, h2⟩ := h
  simp [Hb.need, h1, h2]
/-- out of simp's sight -/
def Keep (q : Prop) : Prop := q
def RoomRel (cb j hb size : Nat) (ring0 : List Nat) (X0 : Nat → Hb) (w : World) (i : Nat) (wr : World) : Prop :=
  ∃ v ring X, CAt wr cb j hb size v ring X ∧ Fewer ring0 X0 ring X ∧ (ring.length < size ∨ (ring.length = size ∧ ring0.length = size ∧ Near (fun k => (X k).need) (fun k => (X k).seen) ring size i)) ∧ Tch cb hb w wr
def RoomPost (cb j hb size : Nat) (ring0 : List Nat) (X0 : Nat → Hb) (w : World) (e : Ending) (w' : World) : Prop :=
  ∃ c v ring X, e = .returned (.int .i64 c) ∧ CAt w' cb j hb size v ring X ∧ Fewer ring0 X0 ring X ∧ Tch cb hb w w' ∧ ((c = 0 ∧ ring.length < size) ∨ (c = 801 ∧ ring.length = size ∧ ∀ k ∈ ring, (X k).need = true))
theorem Tch.drewN {w' : World} (h : Tch cb hb w w') (q : Nat) : Tch cb hb w (w'.drewN q) := Kp.drewN h q
set_option maxHeartbeats 1000000 in
set_option maxRecDepth 100000 in
theorem room_any (h : CAt w cb j hb size v ring X) : Calls Try.prog 66 #[.pointer (some ⟨cb, 0, none⟩)] w (RoomPost cb j hb size ring X w) := by
  obtain ⟨ao, c, rfl⟩ := h.rng.shape
  have hcap := h.cap
  have hlim := h.lim
  have hrel0 : RoomRel cb j hb size ring X w 0 w := ⟨_, ring, X, h, Fewer.refl _ _, by
    rcases Nat.lt_or_ge ring.length size with hl | hl
    · exact .inl hl
    · obtain rfl : ring.length = size := by omega
      exact .inr ⟨rfl, rfl, near_start _ _ _⟩, Tch.refl w⟩
  obtain ⟨⟨p0, p1, p2, p3⟩, z0, z1, z2, z3⟩ := row4 h.row
  go_enter Try.func66, Try.ntmps66
  go_wp2
  go_loopw [11] (fun i wr => ∃ k : Nat, i = .int .i64 k ∧ k ≤ 2 * ring.length ∧ RoomRel cb j hb size ring X w k wr) (fun i _ => 2 * ring.length - (RowKit.intOf i).toNat)
  case atStart => exact ⟨0, rfl, by omega, hrel0⟩
  case round =>
    obtain ⟨i, rfl, hi, v1, ring1, X1, hC, hF, hN, hT⟩ := hrel
    obtain ⟨⟨q0, q1, q2, q3⟩, y0, y1, y2, y3⟩ := row4 hC.row
    have hlen := fun q ty => (hC.quiet q).map.len Try.underlying81 ty
    have hlen0 := fun ty => hC.map.len Try.underlying81 ty
    have hcap1 := hC.cap
    by_cases hlt : i < 2 * ring.length
    · have g3 : decide ((i : Int) < 2 * (ring.length : Int)) = true := by simp; omega
      by_cases hful : ring1.length < size
      · have g4 : decide ((ring1.length : Int) < (size : Int)) = true := by simp; omega
        go_wp2
        go_quiet (fail)
        go_wp2
        go_ret
        exact ⟨0, v1, ring1, X1, rfl, hC.quiet _, hF, hT.drewN _, .inl ⟨rfl, hful⟩⟩
      · have g4 : decide ((ring1.length : Int) < (size : Int)) = false := by simp; omega
        rcases hN with hN | ⟨hN1, hN2, hN⟩
        · exact absurd hN hful
        obtain ⟨a, r, rfl⟩ : ∃ a r, ring1 = a :: r := by
          cases ring1 with
          | nil => simp at hN1; omega
          | cons a r => exact ⟨a, r, rfl⟩
        obtain ⟨b, off, c1, rfl⟩ : ∃ b off c1, v1 = .slice (some ⟨b, off, none⟩) (a :: r).length c1 := by
          rcases hC.rng with ⟨_, e⟩ | ⟨b, off, cap, cur, e, _⟩
          · cases e
          · exact ⟨b, off, cap, e⟩
        have hc0 : wr.cell? ⟨b, off, none⟩ = some (.int .i64 (a : Int)) := hC.rng.cell (j := 0) (x := a) rfl
        have hrot := fun q => (hC.quiet q).rot
        simp only [List.length_cons] at q3 hc0 hrot hlen hlen0 g4 hN1 ⊢
        have g4 : decide ((r.length : Int) + 1 < (size : Int)) = false := by simp; omega
        replace hN1 : Keep (r.length + 1 = size) := hN1
        replace hN2 : Keep (ring.length = size) := hN2
        have hc1 : ¬ c1 = 1 := by
          rcases hC.rng with ⟨e, _⟩ | ⟨b', off', cap, cur, e, _, _, h2, _⟩
          · cases e
          · simp only [Value.slice.injEq] at e
            have := hlim
            have : r.length + 1 = size := hN1
            simp only [List.length_cons] at h2
            omega
        have hnod := hC.nodup
        rw [List.nodup_cons] at hnod
        have hperm : ∀ k, k ∈ r ++ [a] ↔ k ∈ a :: r := fun k => by simp [or_comm]
        have ha60 := hC.home a (by simp)
        have hFa := hF.1 a (by simp)
        have hF2 : Fewer ring X (r ++ [a]) X1 := ⟨fun k hk => hF.1 k ((hperm k).1 hk), fun k hk hn => hF.2 k hk fun e => hn ((hperm k).2 e)⟩
        have hlen2 : Keep ((r ++ [a]).length = size) := by unfold Keep; simp; exact hN1
        go_wp2
        go_quiet (fail)
        obtain ⟨v2, w2, hrun, hC2, hT2, ⟨ad, c2, rfl⟩, hrow2⟩ := hrot nq
        have hT3 := (hT.drewN nq).trans hT2
        obtain ⟨⟨r0, r1, r2, r3⟩, x0, x1, x2, x3⟩ := row4 hrow2
        obtain ⟨⟨s0, s1, s2, s3⟩, t0, t1, t2, t3⟩ := row4 hC2.row
        have hhel : (w2.setCell ⟨cb, 3, none⟩ (.slice (some ad) (r.length + 1) c2)).heap[(X1 a).blk]? = some (.cells #[.string (X1 a).data, .bool (X1 a).dirty, .int .i64 ((X1 a).pins : Int), .bool (X1 a).seen] 88) := hC2.held a (by simp)
        obtain ⟨⟨l0, l1, l2, l3⟩, m0, m1, m2, m3⟩ := row4 hhel
        have hlk := hC2.map.look Try.underlying81 (Try.zeroValue84 _) (k := (a : Int)) (wf_i64 (by omega)) false
        rw [ptrM_in (by simp : a ∈ r ++ [a])] at hlk
        simp only [Option.getD_some, Bool.false_eq_true, if_false] at hlk
        clear hrot hlen0
        cases hd : (X1 a).dirty with
        | true =>
          have hne : (X1 a).need = true := by simp [Hb.need, hd]
          have hnx := hN.next (seen' := fun k => (X1 k).seen) hN1 hnod.1 (fun e => by simp [hne] at e) (fun _ _ => rfl)
          have hrel : RoomRel cb j hb size ring X w (i + 1) (w2.setCell ⟨cb, 3, none⟩ (.slice (some ad) (r.length + 1) c2)) := ⟨_, r ++ [a], X1, hC2, hF2, .inr ⟨hlen2, hN2, hnx⟩, hT3⟩
          rw [hd] at l1
          clear hN hnx
          go_wp2_with (at_builtin; refine wpList_append_run rfl (.tmp 34) (.tmp 36) 63 rfl 63 rfl rfl rfl hrun ?_)
          exact ⟨⟨i + 1, by simp, by omega, hrel⟩, by simp [RowKit.intOf]; omega⟩
        | false =>
          rw [hd] at l1
          by_cases hpin : 0 < (X1 a).pins
          · have hne : (X1 a).need = true := by simp [Hb.need, hpin]
            have hnx := hN.next (seen' := fun k => (X1 k).seen) hN1 hnod.1 (fun e => by simp [hne] at e) (fun _ _ => rfl)
            have hrel : RoomRel cb j hb size ring X w (i + 1) (w2.setCell ⟨cb, 3, none⟩ (.slice (some ad) (r.length + 1) c2)) := ⟨_, r ++ [a], X1, hC2, hF2, .inr ⟨hlen2, hN2, hnx⟩, hT3⟩
            have g5 : decide ((0 : Int) < ((X1 a).pins : Int)) = true := by simp; omega
            clear hN hnx
            go_wp2_with (at_builtin; refine wpList_append_run rfl (.tmp 34) (.tmp 36) 63 rfl 63 rfl rfl rfl hrun ?_)
            exact ⟨⟨i + 1, by simp, by omega, hrel⟩, by simp [RowKit.intOf]; omega⟩
          · have g5 : decide ((0 : Int) < ((X1 a).pins : Int)) = false := by simp; omega
            have hne : (X1 a).need = false := by simp [Hb.need, hd, hpin]
            cases hs : (X1 a).seen with
            | true =>
              have hax : a ∈ r ++ [a] := by simp
              have hC3 := hC2.turn hax (x := { X1 a with seen := false }) rfl (w' := (w2.setCell ⟨cb, 3, none⟩ (.slice (some ad) (r.length + 1) c2)).setCell ⟨(X1 a).blk, 3, none⟩ (.bool false)) (set_blk hhel 3 _) (kp_set1 _ _ _ _)
              have hT4 := hT3.trans (Kp.imp (kp_set1 (w2.setCell ⟨cb, 3, none⟩ (.slice (some ad) (r.length + 1) c2)) (X1 a).blk 3 (.bool false)) (S' := Tag cb hb (w2.setCell ⟨cb, 3, none⟩ (.slice (some ad) (r.length + 1) c2))) fun k hk => by rw [hk]; exact hC2.tag_blk hax)
              have hneed : (fun k => (updX X1 a { X1 a with seen := false } k).need) = fun k => (X1 k).need := by
                funext k
                unfold updX
                split
                · rename_i e; subst e; rfl
                · rfl
              have hnx := hN.next (seen' := fun k => (updX X1 a { X1 a with seen := false } k).seen) hN1 hnod.1 (fun _ => ⟨hs, by simp [updX]⟩) (fun k hk => by simp [updX, hk])
              rw [← hneed] at hnx
              have hF3 : Fewer ring X (r ++ [a]) (updX X1 a { X1 a with seen := false }) := ⟨fun k hk => by
                refine ⟨(hF2.1 k hk).1, ?_⟩
                have := (hF2.1 k hk).2
                by_cases e : k = a
                · rw [e] at this ⊢
                  unfold Alike
                  rw [updX_same]
                  exact this
                · unfold Alike
                  rw [updX_other e]
                  exact this, hF2.2⟩
              have hrel : RoomRel cb j hb size ring X w (i + 1) ((w2.setCell ⟨cb, 3, none⟩ (.slice (some ad) (r.length + 1) c2)).setCell ⟨(X1 a).blk, 3, none⟩ (.bool false)) := ⟨_, r ++ [a], _, hC3, hF3, .inr ⟨hlen2, hN2, hnx⟩, hT4⟩
              rw [hs] at l3
              clear hN hnx hF3 hneed hC3 hT4
              go_wp2_with (at_builtin; refine wpList_append_run rfl (.tmp 34) (.tmp 36) 63 rfl 63 rfl rfl rfl hrun ?_)
              exact ⟨⟨i + 1, by simp, by omega, hrel⟩, by simp [RowKit.intOf]; omega⟩
            | false =>
              rw [hs] at l3
              obtain ⟨w4, hdel, hM4, hK4, hsz4⟩ := hC2.map.drop Try.underlying81 (k := (a : Int)) (wf_i64 (by omega)) 0
              obtain ⟨hC5, hT5⟩ := hC2.give (w1 := w4.drew) (hM4.kp ((kp_refl (fun _ => False) w4).drew) (fun e => e)) hK4.drew
              have hcc : r.length ≤ c2 := by
                rcases hC2.rng with ⟨e, _⟩ | ⟨b', off', cap, cur, e, _, _, h2, _⟩
                · cases e
                · simp only [Value.slice.injEq] at e
                  simp only [List.length_append, List.length_singleton] at h2
                  omega
              have e1 : IntKind.i64.wrap (r.length : Int) = (r.length : Int) := IntWalk.i64_in _ (by unfold Keep at hN1; omega)
              obtain ⟨⟨u0, u1, u2, u3⟩, k0, k1, k2, k3⟩ := row4 ((hK4.block cb (blk_lt hC2.row) hC2.ne.1).trans hC2.row)
              have hF3 : Fewer ring X r X1 := ⟨fun k hk => hF2.1 k (by simp [hk]), fun k hk hn => by
                by_cases e : k = a
                · rw [e, ← hFa.2.need]
                  exact hne
                · exact hF.2 k hk fun e2 => by
                    rcases List.mem_cons.1 e2 with e2 | e2
                    · exact e e2
                    · exact hn e2⟩
              have hlt2 : r.length < size := by unfold Keep at hN1; omega
              have hrel : RoomRel cb j hb size ring X w (i + 1) (w4.drew.setCell ⟨cb, 3, none⟩ (.slice (some ad) r.length c2)) := ⟨_, r, X1, hC5, hF3, .inl hlt2, hT3.trans hT5⟩
              clear hN hF3 hC5 hT5 hlt2 hM4 hK4
              go_wp2_with (at_builtin; refine wpList_append_run rfl (.tmp 34) (.tmp 36) 63 rfl 63 rfl rfl rfl hrun ?_)
              go_still_tail 14, (by kernel_rfl)
              change wpList _ _ _ _ _ w4.drew
              go_wp2
              exact ⟨⟨i + 1, by simp, by omega, hrel⟩, by simp [RowKit.intOf]; omega⟩
    · have g3 : decide ((i : Int) < 2 * (ring.length : Int)) = false := by simp; omega
      by_cases hful : ring1.length < size
      · have g4 : decide ((ring1.length : Int) < (size : Int)) = true := by simp; omega
        go_wp2
        go_quiet (fail)
        go_wp2
        go_ret
        exact ⟨0, v1, ring1, X1, rfl, hC.quiet _, hF, hT.drewN _, .inl ⟨rfl, hful⟩⟩
      · have g4 : decide ((ring1.length : Int) < (size : Int)) = false := by simp; omega
        rcases hN with hN | ⟨hN1, hN2, hN⟩
        · exact absurd hN hful
        obtain rfl : i = 2 * size := by omega
        have hbusy := hN.done
        go_wp2
        go_quiet (fail)
        go_wp2
        go_ret
        exact ⟨801, v1, ring1, X1, rfl, hC.quiet _, hF, hT.drewN _, .inr ⟨rfl, hN1, hbusy⟩⟩
end
end
section
open Go.RowKit Go.Maps Go.Lib
section
variable {w : World} {cb j hb size : Nat} {v : Value} {ring : List Nat} {X : Nat → Hb}
def noX : Nat → Hb := fun _ => ⟨0, ByteArray.empty, false, 0, false⟩
theorem ptrM_nil (X : Nat → Hb) : ptrM [] X = noneM := by
  funext k
  unfold ptrM noneM
  rw [if_neg (by simp)]
def CNewPost (j size : Nat) (w : World) (e : Ending) (w' : World) : Prop :=
  ∃ cb hb, w.heap.size ≤ cb ∧ w.heap.size ≤ hb ∧ e = .returned (.tuple #[.pointer (some ⟨cb, 0, none⟩), .int .i64 0]) ∧ CAt w' cb j hb size (.slice none 0 0) [] noX ∧ Kp (fun _ => False) w w'
set_option maxHeartbeats 1000000 in
theorem cnew_any (w : World) (j size : Nat) (hl : 4 ≤ size ∧ size ≤ 1024) : Calls Try.prog 44 #[.pointer (some ⟨j, 0, none⟩), .int .i64 (size : Int)] w (CNewPost j size w) := by
  have g1 : decide ((size : Int) < 4) = false := by simp; omega
  have g2 : decide ((1024 : Int) < (size : Int)) = false := by simp; omega
  have hmm := fun w => run_makeMap (P := Try.prog) 81 w
  go_enter Try.func44, Try.ntmps44
  go_wp2
  go_ret2
  refine ⟨w.heap.size + 1, w.heap.size, by omega, Nat.le_refl _, by simp, ⟨?_, ?_, .inl ⟨rfl, rfl⟩, by simp, by simp, by simp, by simp, ⟨fun b hb => (by cases hb), by simp⟩, by simp, hl⟩, (kp_alloc _ w _).alloc _⟩
  · have := heap_alloc_new (w.alloc (.map #[] 0)) (.cells #[.pointer (some ⟨j, 0, none⟩), .int .i64 (size : Int), .map (some w.heap.size), .slice none 0 0] 83)
    simpa using this
  · rw [ptrM_nil]
    exact (mapAt_made w).kp (kp_alloc (fun _ => False) _ _) fun e => e
theorem cnew_nil (w : World) : Calls Try.prog 44 #[.pointer none, .int .i64 8] w (fun e w' => e = .returned (.tuple #[.pointer none, .int .i64 1]) ∧ w' = w) := by
  go_enter Try.func44, Try.ntmps44
  go_wp2
  go_ret2
  exact ⟨rfl, rfl⟩
theorem cheld_any (h : CAt w cb j hb size v ring X) : Calls Try.prog 52 #[.pointer (some ⟨cb, 0, none⟩)] w (IntPost ring.length w) := by
  obtain ⟨⟨p0, p1, p2, p3⟩, z0, z1, z2, z3⟩ := row4 h.row
  have hlen := fun ty => h.map.len Try.underlying81 ty
  go_enter Try.func52, Try.ntmps52
  go_wp2
  go_ret
  exact ⟨rfl, rfl⟩
end
end
section
open Go.RowKit Go.Maps Go.Lib
section
variable {w : World} {cb j hb size : Nat} {v : Value} {ring : List Nat} {X : Nat → Hb}
theorem ptrM_put {k : Nat} {x : Hb} (hk : k ∉ ring) : putM (ptrM ring X) (k : Int) (.pointer (some ⟨x.blk, 0, none⟩)) = ptrM (ring ++ [k]) (updX X k x) := by
  funext i
  unfold putM
  split
  · rename_i e
    subst e
    rw [ptrM_in (by simp), updX_same]
  · rename_i e
    by_cases hi : 0 ≤ i ∧ i.toNat ∈ ring
    · obtain ⟨n, rfl⟩ : ∃ n : Nat, i = n := ⟨i.toNat, by omega⟩
      have h2 : n ∈ ring := by simpa using hi.2
      have hne : n ≠ k := fun e2 => hk (e2 ▸ h2)
      rw [ptrM_in h2, ptrM_in (by simp [h2]), updX_other hne]
    · rw [ptrM_far hi, ptrM_far]
      rintro ⟨h1, h2⟩
      rw [List.mem_append, List.mem_singleton] at h2
      rcases h2 with h2 | h2
      · exact hi ⟨h1, h2⟩
      · omega
theorem CAt.add (h : CAt w cb j hb size v ring X) {k : Nat} (hk : k ∉ ring) (h60 : 60 ≤ k ∧ k < 200) (hroom : ring.length < size) (s : ByteArray) :
    ∃ w4, (Instr.mapUpdate 81 (.map (some hb)) (.int .i64 (k : Int)) (.pointer (some ⟨w.heap.size, 0, none⟩))).run Try.prog (w.alloc (.cells #[.string s, .bool false, .int .i64 0, .bool false] 88)) = .ok () w4 ∧
      w4.heap[cb]? = some (.cells #[.pointer (some ⟨j, 0, none⟩), .int .i64 (size : Int), .map (some hb), v] 83) ∧
      ∃ v' w6, (Builtin.append_ #[63, 63] 63 #[v, .slice (some ⟨w4.heap.size, 0, none⟩) 1 1]).run Try.prog (w4.alloc (.cells #[.int .i64 (k : Int)] 3)) = .ok v' w6 ∧
      w6.heap[cb]? = some (.cells #[.pointer (some ⟨j, 0, none⟩), .int .i64 (size : Int), .map (some hb), v] 83) ∧
      CAt (w6.setCell ⟨cb, 3, none⟩ v') cb j hb size v' (ring ++ [k]) (updX X k ⟨w.heap.size, s, false, 0, false⟩) ∧ Tch cb hb w (w6.setCell ⟨cb, 3, none⟩ v') := by
  obtain ⟨n1, n2, n3⟩ := h.ne
  have hlim := h.lim
  have hcb := blk_lt h.row
  have hhb := h.map.lt
  have K1 : Kp (fun _ => False) w (w.alloc (.cells #[.string s, .bool false, .int .i64 0, .bool false] 88)) := kp_alloc _ w _
  have hsz1 : (w.alloc (.cells #[.string s, .bool false, .int .i64 0, .bool false] 88)).heap.size = w.heap.size + 1 := by simp
  have hnew := heap_alloc_new w (.cells #[.string s, .bool false, .int .i64 0, .bool false] 88)
  obtain ⟨w4, hup, hM4, K2, hsz⟩ := (h.map.kp K1 fun e => e).store (by omega) Try.underlying81 (k := (k : Int)) (wf_i64 (by omega)) (.pointer (some ⟨w.heap.size, 0, none⟩))
  generalize w.alloc (.cells #[.string s, .bool false, .int .i64 0, .bool false] 88) = w3 at *
  have K12 : Kp (fun i => i = hb) w w4 := (K1.imp fun _ e => e.elim).trans K2
  have hrow4 := (K12.block cb hcb n1).trans h.row
  have K3 : Kp (fun _ => False) w4 (w4.alloc (.cells #[.int .i64 (k : Int)] 3)) := kp_alloc _ w4 _
  have K13 : Kp (fun i => i = hb) w (w4.alloc (.cells #[.int .i64 (k : Int)] 3)) := K12.trans (K3.imp fun _ e => e.elim)
  have hR5 : RingAt (w4.alloc (.cells #[.int .i64 (k : Int)] 3)) v ring := h.rng.kp K13 fun b hb => (n2 b hb).2
  obtain ⟨v', w6, hrun, hR6, K4, hblk, ad, c', hv⟩ := ring_app (w4.alloc (.cells #[.int .i64 (k : Int)] 3)) w4.heap.size v ring k (heap_alloc_new w4 _) hR5 (by omega)
  have hsz5 : (w4.alloc (.cells #[.int .i64 (k : Int)] 3)).heap.size = w4.heap.size + 1 := by simp
  generalize hw5 : w4.alloc (.cells #[.int .i64 (k : Int)] 3) = w5 at *
  have K5 := kp_set1 w6 cb 3 v'
  have hcbR : ∀ b, ringB v = some b → b < w.heap.size := fun b hb => h.rng.lt hb
  have hrow6 : w6.heap[cb]? = _ := (K4.block cb (by have := K13.size; omega) fun e => (n2 cb e).1 rfl).trans ((K13.block cb hcb n1).trans h.row)
  have K37 : Kp (fun i => i = hb ∨ ringB v = some i ∨ i = cb) w3 (w6.setCell ⟨cb, 3, none⟩ v') :=
    (((K2.imp fun _ e => Or.inl e).trans (K3.imp fun _ e => e.elim)).trans (K4.imp fun _ e => Or.inr (Or.inl e))).trans (K5.imp fun _ e => Or.inr (Or.inr e))
  have K17 : Kp (fun i => i = hb ∨ ringB v = some i ∨ i = cb) w (w6.setCell ⟨cb, 3, none⟩ v') := (K1.imp fun _ e => e.elim).trans K37
  have hvcb : ∀ g, ringB v' = some g → ¬ g = cb := fun g hg => by
    rcases hblk with e | ⟨g2, e, hlt⟩
    · rw [e] at hg
      exact (n2 g hg).1
    · rw [e] at hg
      cases hg
      have := K12.size
      omega
  have hold : ∀ l ∈ ring, l ≠ k := fun l hl e => hk (e ▸ hl)
  have hmem : ∀ l, l ∈ ring ++ [k] ↔ l ∈ ring ∨ l = k := fun l => by simp
  refine ⟨w4, hup, hrow4, v', w6, by rw [hw5]; exact hrun, hrow6, ⟨set_blk hrow6 3 v', ?_, hR6.kp K5 hvcb, ?_, fun l hl => ?_, fun l hl m hm e => ?_, fun l hl => ?_, ⟨fun g hg => ?_, fun l hl => ?_⟩, by simp; omega, hlim⟩, K17.imp fun i hi => ?_⟩
  · rw [ptrM_out hk] at hM4
    have hM4' : MapAt w4 hb (ptrM (ring ++ [k]) (updX X k ⟨w.heap.size, s, false, 0, false⟩)) (ring.length + 1) := by
      rw [← ptrM_put hk]
      simpa using hM4
    have := hM4'.kp ((K3.imp (S' := fun i => ringB v = some i ∨ i = cb) fun _ e => e.elim).trans ((K4.imp fun _ e => Or.inl e).trans (K5.imp fun _ e => Or.inr e))) fun e => by
      rcases e with e | e
      · exact (n2 hb e).2 rfl
      · exact n1 e.symm
    simpa using this
  · rw [List.nodup_append]
    exact ⟨h.nodup, by simp, fun x hx y hy => by simp at hy; subst hy; exact hold x hx⟩
  · rcases (hmem l).1 hl with hl | rfl
    · rw [updX_other (hold l hl)]
      obtain ⟨m1, m2, m3⟩ := n3 l hl
      exact (K17.block _ (blk_lt (h.held l hl)) fun e => by
        rcases e with e | e | e
        · exact m2 e
        · exact m3 _ e rfl
        · exact m1 e).trans (h.held l hl)
    · rw [updX_same]
      have hlt : w.heap.size < w3.heap.size := by omega
      exact (K37.block w.heap.size hlt fun e => by
        rcases e with e | e | e
        · omega
        · exact absurd (hcbR _ e) (Nat.lt_irrefl _)
        · omega).trans hnew
  · rcases (hmem l).1 hl with hl2 | hl2 <;> rcases (hmem m).1 hm with hm2 | hm2
    · rw [updX_other (hold l hl2), updX_other (hold m hm2)] at e
      exact h.inj l hl2 m hm2 e
    · rw [updX_other (hold l hl2), hm2, updX_same] at e
      have := blk_lt (h.held l hl2)
      simp at e
      omega
    · rw [updX_other (hold m hm2), hl2, updX_same] at e
      have := blk_lt (h.held m hm2)
      simp at e
      omega
    · rw [hl2, hm2]
  · rcases (hmem l).1 hl with hl | rfl
    · exact h.home l hl
    · exact h60
  · rcases hblk with e | ⟨g2, e, hlt⟩
    · rw [e] at hg
      exact h.young.1 g hg
    · rw [e] at hg
      cases hg
      have := K12.size
      omega
  · rcases (hmem l).1 hl with hl | rfl
    · rw [updX_other (hold l hl)]
      exact h.young.2 l hl
    · rw [updX_same]
      exact Nat.le_of_lt hcb
  · rcases hi with rfl | hi | rfl
    · exact .inr (.inl rfl)
    · obtain ⟨cs, hcs⟩ := ring_tag h.rng hi
      exact .inr (.inr ⟨h.young.1 i hi, cs, .inr hcs⟩)
    · exact .inl rfl
end
end
end Go.Proofs.Ytkcclaljhedmjaa

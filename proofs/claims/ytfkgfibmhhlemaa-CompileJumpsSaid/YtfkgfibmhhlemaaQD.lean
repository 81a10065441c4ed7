/- CompileTrees: a part of the proof (D0 D1 D2 D3 D4 D5 D6 D7 D8 D9). No conditions. -/
import Derived.Test.YtfkgfibmhhlemaaQB
import Derived.Maps.OwnSet
import Derived.Deep.RegionWith
namespace Go.Proofs.Ytfkgfibmhhlemaa
open Go.RowKit Go.Maps Go.WideMaps
theorem cnt_add {a b : List Value} (h : a.length = cnt a * 4) : cnt (a ++ b) = cnt a + cnt b := by
  unfold cnt at h ⊢
  rw [List.length_append]; omega
theorem Lays.len {w w1 : World} {B b n m : Nat} {v v1 : Value} {xs new : List Value} (hE : Em w B b v n xs) (h1 : Lays w B b v n xs new m v1 w1) : new.length = m * 4 := by
  have a := h1.em.own.1
  have c := hE.own.1
  rw [List.length_append, Nat.add_mul] at a; omega
theorem two_close {w w1 w2 w' : World} {B b n : Nat} {v v1 v2 : Value} {xs new new2 : List Value} {op arg : Int} {num : Value} {tx : ByteArray} (hE : Em w B b v n xs) (h1 : Lays w B b v n xs new (cnt new) v1 w1)
    (h2 : Lays w1 B b v1 (n + cnt new) (xs ++ new) new2 (cnt new2) v2 w2) (h3 : PutPost w2 B b v2 (n + cnt new + cnt new2 + 1) (xs ++ new ++ new2 ++ ins op arg num tx) (.returned (.tuple #[])) w') :
    ExprPost w B b v n xs (some (new ++ new2 ++ ins op arg num tx)) (.returned (.tuple #[])) w' := by
  have h12 := h1.trans h2
  rw [← cnt_add (h1.len hE)] at h12
  refine one_close hE h12 ?_
  rw [cnt_add (h1.len hE), ← Nat.add_assoc, ← List.append_assoc]
  exact h3
set_option maxRecDepth 100000 in
set_option maxHeartbeats 800000 in
/-- a binary expression -/
theorem expr_binary (R : Nat → Prop) (B b : Nat) (v : Value) (n : Nat) (xs new new2 : List Value) (w : World) (hE : Em w B b v n xs)
    (nb no kb ko : Nat) (t : ByteArray) (op : Int) (ho : signO t = some op) (x : Nat) (cap : Nat) (ks : List Nd) (_hks : ks.length = 2) (a : Int) (hn : NodeP R w nb no 18 t x (.slice (some ⟨kb, ko, none⟩) 2 cap) ks a)
    (hkid : Calls Try.prog 38 #[.pointer (some ⟨b, 0, none⟩), .pointer (some ⟨kb, ko, none⟩)] w (ExprPost w B b v n xs (some new)))
    (hkeep : ∀ w1 v1, Lays w B b v n xs new (cnt new) v1 w1 → w1.cell? ⟨nb, no + 3, none⟩ = some (.slice (some ⟨kb, ko, none⟩) 2 cap))
    (hkid2 : ∀ w1 v1, Lays w B b v n xs new (cnt new) v1 w1 → Calls Try.prog 38 #[.pointer (some ⟨b, 0, none⟩), .pointer (some ⟨kb, ko + 5, none⟩)] w1 (ExprPost w1 B b v1 (n + cnt new) (xs ++ new) (some new2)))
    (hput : ∀ w1 v1 w2 v2, Lays w B b v n xs new (cnt new) v1 w1 → Lays w1 B b v1 (n + cnt new) (xs ++ new) new2 (cnt new2) v2 w2 →
      Calls Try.prog 19 #[.pointer (some ⟨b, 0, none⟩), .agg #[.int .i64 op, .int .i64 0, .float .f64 0, .string ⟨#[]⟩]] w2 (PutPost w2 B b v2 (n + cnt new + cnt new2 + 1) (xs ++ new ++ new2 ++ ins op 0 f0 noText))) :
    Calls Try.prog 38 #[.pointer (some ⟨b, 0, none⟩), .pointer (some ⟨nb, no, none⟩)] w (ExprPost w B b v n xs (some (new ++ new2 ++ ins op 0 f0 noText))) := by
  obtain ⟨_, c0, c1, c2, c3, c4, _, _⟩ := hn
  have hk := kids_ok nb no (some ⟨kb, ko, none⟩) 2 cap w c3
  have hs := sign_any t w
  have hs2 : Calls Try.prog 49 #[.string t] w fun e w' => e = .returned (.int .i64 op) ∧ w' = w := hs.mono fun e w' h => ⟨by rw [h.1, ho]; rfl, h.2⟩
  have hcl : ∀ w1 v1 w2 v2 w', Lays w B b v n xs new (cnt new) v1 w1 → Lays w1 B b v1 (n + cnt new) (xs ++ new) new2 (cnt new2) v2 w2 → PutPost w2 B b v2 (n + cnt new + cnt new2 + 1) (xs ++ new ++ new2 ++ ins op 0 f0 noText) (.returned (.tuple #[])) w' →
      ExprPost w B b v n xs (some (new ++ new2 ++ ins op 0 f0 noText)) (.returned (.tuple #[])) w' := fun _ _ _ _ _ h1 h2 h3 => two_close hE h1 h2 h3
  clear hE ho _hks hs
  go_enter Try.func38, Try.ntmps38
  go_wp2_with (first | (go_at_call 49; refine hs2.mono ?_; rintro e w' ⟨rfl, rfl⟩) | (go_at_call 39; refine hk.mono ?_; rintro e w' ⟨rfl, rfl⟩) | (go_at_call 38; refine hkid.mono ?_; intro e w1 hp1; obtain ⟨rfl, v1, hl1⟩ := hp1; have hc1 := hkeep _ _ hl1; clear hkid) | (go_at_call 38; refine (hkid2 _ _ hl1).mono ?_; intro e w2 hp2; obtain ⟨rfl, v2, hl2⟩ := hp2) | (go_at_call 19; refine (hput _ _ _ _ hl1 hl2).mono ?_; intro e w' hpp; obtain rfl : e = .returned (.tuple #[]) := hpp.1))
  go_end0
  exact hcl _ _ _ _ _ hl1 hl2 hpp
end Go.Proofs.Ytfkgfibmhhlemaa
namespace Go.Proofs.Ytfkgfibmhhlemaa
open Go.RowKit Go.Maps Go.WideMaps
theorem Kp.after {w w1 w2 : World} {B b n m : Nat} {v v1 : Value} {xs new : List Value} (h1 : Lays w B b v n xs new m v1 w1) (h2 : Kp (fun k => k = b ∨ v1.ownBlock = some k) w1 w2) : Kp (fun k => k = b ∨ v.ownBlock = some k) w w2 := by
  refine ⟨h2.os.trans h1.kept.os, h2.tape.trans h1.kept.tape, h2.output.trans h1.kept.output, Nat.le_trans h1.kept.size h2.size, fun k hk hS => (h2.block k (Nat.lt_of_lt_of_le hk h1.kept.size) fun h => ?_).trans (h1.kept.block k hk hS)⟩
  rcases h with h | h
  · exact hS (.inl h)
  · rcases h1.fresh k h with h | h
    · exact hS (.inr h)
    · omega
set_option maxRecDepth 100000 in
set_option maxHeartbeats 800000 in
/-- a binary expression with no sign -/
theorem expr_binary_sign (R : Nat → Prop) (b : Nat) (w : World) (nb no : Nat) (t : ByteArray) (ho : signO t = none) (x : Nat) (S : Value) (ks : List Nd) (a : Int) (hn : NodeP R w nb no 18 t x S ks a) :
    Calls Try.prog 38 #[.pointer (some ⟨b, 0, none⟩), .pointer (some ⟨nb, no, none⟩)] w fun e w' => e = thrown ∧ w' = w := by
  obtain ⟨_, c0, c1, c2, c3, c4, _, _⟩ := hn
  have hs := sign_any t w
  have hs2 : Calls Try.prog 49 #[.string t] w fun e w' => e = thrown ∧ w' = w := hs.mono fun e w' h => ⟨by rw [h.1, ho]; rfl, h.2⟩
  clear ho hs
  go_enter Try.func38, Try.ntmps38
  go_wp2_with (go_at_call 49; refine hs2.mono ?_; rintro e w' ⟨rfl, rfl⟩)
  exact ⟨rfl, rfl, rfl⟩
set_option maxRecDepth 100000 in
set_option maxHeartbeats 800000 in
/-- a binary expression with another number of kids -/
theorem expr_binary_many (R : Nat → Prop) (b : Nat) (w : World) (nb no : Nat) (t : ByteArray) (op : Int) (ho : signO t = some op) (x : Nat) (ao : Option Addr) (cap : Nat) (ks : List Nd) (hl : ks.length ≤ maxLen) (h2 : ks.length ≠ 2) (a : Int) (hn : NodeP R w nb no 18 t x (.slice ao ks.length cap) ks a) :
    Calls Try.prog 38 #[.pointer (some ⟨b, 0, none⟩), .pointer (some ⟨nb, no, none⟩)] w fun e w' => e = thrown ∧ w' = w := by
  obtain ⟨_, c0, c1, c2, c3, c4, _, _⟩ := hn
  have hk := kids_no nb no ao ks.length cap 2 w hl (by omega) h2 c3
  have hs := sign_any t w
  have hs2 : Calls Try.prog 49 #[.string t] w fun e w' => e = .returned (.int .i64 op) ∧ w' = w := hs.mono fun e w' h => ⟨by rw [h.1, ho]; rfl, h.2⟩
  clear ho hs hl h2
  go_enter Try.func38, Try.ntmps38
  go_wp2_with (first | (go_at_call 49; refine hs2.mono ?_; rintro e w' ⟨rfl, rfl⟩) | (go_at_call 39; refine hk.mono ?_; rintro e w' ⟨rfl, rfl⟩))
  exact ⟨rfl, rfl, rfl⟩
end Go.Proofs.Ytfkgfibmhhlemaa
namespace Go.Proofs.Ytfkgfibmhhlemaa
open Go.RowKit Go.Maps Go.WideMaps
set_option maxRecDepth 100000 in
set_option maxHeartbeats 800000 in
/-- a binary expression whose first kid throws -/
theorem expr_binary_kid (R : Nat → Prop) (B b : Nat) (v : Value) (n : Nat) (xs : List Value) (w : World)
    (nb no kb ko : Nat) (t : ByteArray) (op : Int) (ho : signO t = some op) (x : Nat) (cap : Nat) (ks : List Nd) (a : Int) (hn : NodeP R w nb no 18 t x (.slice (some ⟨kb, ko, none⟩) 2 cap) ks a)
    (hkid : Calls Try.prog 38 #[.pointer (some ⟨b, 0, none⟩), .pointer (some ⟨kb, ko, none⟩)] w (ExprPost w B b v n xs none)) :
    Calls Try.prog 38 #[.pointer (some ⟨b, 0, none⟩), .pointer (some ⟨nb, no, none⟩)] w (ExprPost w B b v n xs none) := by
  obtain ⟨_, c0, c1, c2, c3, c4, _, _⟩ := hn
  have hk := kids_ok nb no (some ⟨kb, ko, none⟩) 2 cap w c3
  have hs := sign_any t w
  have hs2 : Calls Try.prog 49 #[.string t] w fun e w' => e = .returned (.int .i64 op) ∧ w' = w := hs.mono fun e w' h => ⟨by rw [h.1, ho]; rfl, h.2⟩
  clear ho hs
  go_enter Try.func38, Try.ntmps38
  go_wp2_with (first | (go_at_call 49; refine hs2.mono ?_; rintro e w' ⟨rfl, rfl⟩) | (go_at_call 39; refine hk.mono ?_; rintro e w' ⟨rfl, rfl⟩) | (go_at_call 38; refine hkid.mono ?_; intro e w1 hp1; obtain ⟨rfl, hl1⟩ := hp1))
  exact ⟨rfl, rfl, hl1⟩
set_option maxRecDepth 100000 in
set_option maxHeartbeats 800000 in
/-- a binary expression whose second kid throws -/
theorem expr_binary_kid2 (R : Nat → Prop) (B b : Nat) (v : Value) (n : Nat) (xs new : List Value) (w : World)
    (nb no kb ko : Nat) (t : ByteArray) (op : Int) (ho : signO t = some op) (x : Nat) (cap : Nat) (ks : List Nd) (a : Int) (hn : NodeP R w nb no 18 t x (.slice (some ⟨kb, ko, none⟩) 2 cap) ks a)
    (hkid : Calls Try.prog 38 #[.pointer (some ⟨b, 0, none⟩), .pointer (some ⟨kb, ko, none⟩)] w (ExprPost w B b v n xs (some new)))
    (hkeep : ∀ w1 v1, Lays w B b v n xs new (cnt new) v1 w1 → w1.cell? ⟨nb, no + 3, none⟩ = some (.slice (some ⟨kb, ko, none⟩) 2 cap))
    (hkid2 : ∀ w1 v1, Lays w B b v n xs new (cnt new) v1 w1 → Calls Try.prog 38 #[.pointer (some ⟨b, 0, none⟩), .pointer (some ⟨kb, ko + 5, none⟩)] w1 (ExprPost w1 B b v1 (n + cnt new) (xs ++ new) none)) :
    Calls Try.prog 38 #[.pointer (some ⟨b, 0, none⟩), .pointer (some ⟨nb, no, none⟩)] w (ExprPost w B b v n xs none) := by
  obtain ⟨_, c0, c1, c2, c3, c4, _, _⟩ := hn
  have hk := kids_ok nb no (some ⟨kb, ko, none⟩) 2 cap w c3
  have hs := sign_any t w
  have hs2 : Calls Try.prog 49 #[.string t] w fun e w' => e = .returned (.int .i64 op) ∧ w' = w := hs.mono fun e w' h => ⟨by rw [h.1, ho]; rfl, h.2⟩
  clear ho hs
  go_enter Try.func38, Try.ntmps38
  go_wp2_with (first | (go_at_call 49; refine hs2.mono ?_; rintro e w' ⟨rfl, rfl⟩) | (go_at_call 39; refine hk.mono ?_; rintro e w' ⟨rfl, rfl⟩) | (go_at_call 38; refine hkid.mono ?_; intro e w1 hp1; obtain ⟨rfl, v1, hl1⟩ := hp1; have hc1 := hkeep _ _ hl1; clear hkid) | (go_at_call 38; refine (hkid2 _ _ hl1).mono ?_; intro e w2 hp2; obtain ⟨rfl, hl2⟩ := hp2))
  exact ⟨rfl, rfl, Kp.after hl1 hl2⟩
set_option maxRecDepth 100000 in
set_option maxHeartbeats 800000 in
/-- a unary expression with another number of kids -/
theorem expr_unary_many (R : Nat → Prop) (b : Nat) (w : World) (nb no : Nat) (t : ByteArray) (ho : t.toList = [33] ∨ t.toList = [45]) (x : Nat) (ao : Option Addr) (cap : Nat) (ks : List Nd) (hl : ks.length ≤ maxLen) (h1 : ks.length ≠ 1) (a : Int) (hn : NodeP R w nb no 17 t x (.slice ao ks.length cap) ks a) :
    Calls Try.prog 38 #[.pointer (some ⟨b, 0, none⟩), .pointer (some ⟨nb, no, none⟩)] w fun e w' => e = thrown ∧ w' = w := by
  obtain ⟨_, c0, c1, c2, c3, c4, _, _⟩ := hn
  have hk := kids_no nb no ao ks.length cap 1 w hl (by omega) h1 c3
  clear hl h1
  rcases ho with ht | ht
  · have e1 : (t.toList == [33]) = true := by rw [ht]; decide
    have e2 : (t.toList == [45]) = false := by rw [ht]; decide
    have e3 : (t.toList != [33]) = false := by rw [ht]; decide
    have e4 : (t.toList != [45]) = true := by rw [ht]; decide
    clear ht
    go_enter Try.func38, Try.ntmps38
    go_wp2_with (first | (go_at_call 26; refine (fail_no _).mono ?_; rintro e w' ⟨rfl, rfl⟩) | (go_at_call 39; refine hk.mono ?_; rintro e w' ⟨rfl, rfl⟩))
    exact ⟨rfl, rfl, rfl⟩
  · have e1 : (t.toList == [33]) = false := by rw [ht]; decide
    have e2 : (t.toList == [45]) = true := by rw [ht]; decide
    have e3 : (t.toList != [33]) = true := by rw [ht]; decide
    have e4 : (t.toList != [45]) = false := by rw [ht]; decide
    clear ht
    go_enter Try.func38, Try.ntmps38
    go_wp2_with (first | (go_at_call 26; refine (fail_no _).mono ?_; rintro e w' ⟨rfl, rfl⟩) | (go_at_call 39; refine hk.mono ?_; rintro e w' ⟨rfl, rfl⟩))
    exact ⟨rfl, rfl, rfl⟩
end Go.Proofs.Ytfkgfibmhhlemaa
namespace Go.Proofs.Ytfkgfibmhhlemaa
open Go.RowKit Go.Maps Go.WideMaps
mutual
/-- how much a tree weighs: nodes and letters -/
def Nd.wt : Nd → Nat
  | .mk _ t _ ks _ => 1 + t.size + wtL ks
def wtL : List Nd → Nat
  | [] => 0
  | n :: r => n.wt + wtL r
end
/-- the compiler at work: its code, its names; the tree lies below B -/
structure Cst (R : Nat → Prop) (sl : List (List UInt8)) (w : World) (B b mb : Nat) (v : Value) (n : Nat) (xs : List Value) : Prop where
  em : Em w B b v n xs
  rB : ∀ k, R k → k < B
  bb : B ≤ b
  bm : B ≤ mb
  ne : mb ≠ b
  own : v.ownBlock ≠ some mb
  cell : w.cell? ⟨b, 1, none⟩ = some (.map (some mb))
  map : ∃ D, w.ownsMap Try.prog 9 RI mb sl.length D ∧ Maps.size D = sl.length ∧ ∀ s, At D s (slotOf sl s)
section
variable {R : Nat → Prop} {sl : List (List UInt8)} {w w' : World} {B b mb n m : Nat} {v v' : Value} {xs new : List Value}
theorem Cst.bs (h : Cst R sl w B b mb v n xs) : B ≤ w.heap.size := Nat.le_trans h.bb (Nat.le_of_lt h.em.lt)
theorem Cst.mlt (h : Cst R sl w B b mb v n xs) : mb < w.heap.size := by obtain ⟨D, h1, _⟩ := h.map; exact h1.lt
theorem Cst.rblock (h : Cst R sl w B b mb v n xs) (hk : Kp (fun k => k = b ∨ v.ownBlock = some k) w w') : ∀ k, R k → w'.heap[k]? = w.heap[k]? := fun k hr => by
  have hB := h.rB k hr
  refine hk.block k (Nat.lt_of_lt_of_le hB h.bs) fun e => ?_
  rcases e with e | e
  · have := h.bb; omega
  · have := (h.em.own.lt k e).1; omega
theorem Cst.lays (h : Cst R sl w B b mb v n xs) (hl : Lays w B b v n xs new m v' w') : Cst R sl w' B b mb v' (n + m) (xs ++ new) := by
  refine ⟨hl.em, h.rB, h.bb, h.bm, h.ne, fun e => ?_, (hl.cells 1 (by decide)).trans h.cell, ?_⟩
  · rcases hl.fresh mb e with e | e
    · exact h.own e
    · have := h.mlt; omega
  · obtain ⟨D, ⟨es, clock, hb, F, hs, hD⟩, h2⟩ := h.map
    exact ⟨D, ⟨es, clock, (hl.kept.block mb h.mlt fun e => e.elim h.ne h.own).trans hb, F, hs, hD⟩, h2⟩
theorem NodeP.kept (h : ∀ k, R k → w'.heap[k]? = w.heap[k]?) {nb no : Nat} {k : Int} {t : ByteArray} {x : Nat} {S : Value} {ks : List Nd} {a : Int} (hn : NodeP R w nb no k t x S ks a) : NodeP R w' nb no k t x S ks a := by
  have hb := h nb hn.r
  exact ⟨hn.r, (World.cell?_of_block hb).trans hn.c0, (World.cell?_of_block hb).trans hn.c1, (World.cell?_of_block hb).trans hn.c2, (World.cell?_of_block hb).trans hn.c3, (World.cell?_of_block hb).trans hn.c4, hn.len, hn.kids.kept h⟩
theorem NodeP.kid {nb no : Nat} {k : Int} {t : ByteArray} {x : Nat} {kb ko ln cap : Nat} {ks : List Nd} {a : Int} (hn : NodeP R w nb no k t x (.slice (some ⟨kb, ko, none⟩) ln cap) ks a) (i : Nat) (hi : i < ks.length) :
    ∃ k' t' x' S' ks' a', ks[i] = .mk k' t' x' ks' a' ∧ NodeP R w kb (ko + i * 5) k' t' x' S' ks' a' := by
  obtain ⟨c0, c1, c2, c3, c4, ⟨b', o', n', cap', e, hRb, h0, h1, h2, h3, h4⟩, hnd⟩ := KidsAt.at i hi hn.kids
  injection e with e1 e2 e3; injection e1 with e1; injection e1 with e4 e5; subst e4; subst e5
  rw [Nat.zero_add] at h0 h1 h2 h3 h4
  cases hk : ks[i] with
  | mk k' t' x' ks' a' =>
    rw [hk] at hnd
    obtain ⟨S', e', hs, hkk⟩ := hnd
    simp at e'
    obtain ⟨e1, e2, e3, e4, e5⟩ := e'
    rw [e1] at h0; rw [e2] at h1; rw [e3] at h2; rw [e4] at h3; rw [e5] at h4
    exact ⟨k', t', x', S', ks', a', rfl, hRb, h0, h1, h2, h3, h4, hs, hkk⟩
end
end Go.Proofs.Ytfkgfibmhhlemaa
namespace Go.Proofs.Ytfkgfibmhhlemaa
open Go.RowKit Go.Maps Go.WideMaps
theorem Em.kp {w w' : World} {B b n : Nat} {v : Value} {xs : List Value} (h : Em w B b v n xs) (hk : Kp (fun _ => False) w w') : Em w' B b v n xs := by
  have hb := hk.block b h.lt (fun e => e)
  exact ⟨(World.cell?_of_block hb).trans h.cell, (World.frozen?_of_block hb).trans h.fz, h.own.kept (row := none) ⟨hk.os, hk.tape, hk.output, hk.size, fun k h1 _ => hk.block k h1 (fun e => e)⟩ (by cases v.ownBlock <;> simp), h.ne⟩
theorem Lays.kp {w w' : World} {B b n : Nat} {v : Value} {xs : List Value} (h : Em w B b v n xs) (hk : Kp (fun _ => False) w w') : Lays w B b v n xs [] 0 v w' := by
  have hb := hk.block b h.lt (fun e => e)
  exact ⟨by rw [List.append_nil]; exact h.kp hk, fun _ _ => World.cell?_of_block hb, fun _ => World.frozen?_of_block hb, ⟨hk.os, hk.tape, hk.output, hk.size, fun k h1 _ => hk.block k h1 (fun e => e)⟩, fun _ h => .inl h⟩
/-- where the loop over the kids stands -/
structure AskR (sl : List (List UInt8)) (w : World) (B b : Nat) (v : Value) (n : Nat) (xs : List Value) (ks : List Nd) (wr : World) (k : Nat) (new : List Value) (v1 : Value) : Prop where
  le : k ≤ ks.length
  code : exprL sl (ks.take k) = some new
  lays : Lays w B b v n xs new (cnt new) v1 wr
theorem exprL_take (sl : List (List UInt8)) : ∀ (ks : List Nd) (k : Nat) (h : k < ks.length), exprL sl (ks.take (k + 1)) = (exprL sl (ks.take k)).bind fun a => (exprC sl ks[k]).map fun b => a ++ b
  | x :: r, 0, _ => by simp [exprL, Option.bind]; cases exprC sl x <;> rfl
  | x :: r, k + 1, h => by
    have ih := exprL_take sl r k (by simpa using h)
    simp only [List.take_succ_cons, exprL, List.getElem_cons_succ] at ih ⊢
    rw [ih]
    cases exprC sl x with
    | none => rfl
    | some a =>
      cases exprL sl (r.take k) with
      | none => rfl
      | some b => cases exprC sl (r[k]'(by simpa using h)) with
        | none => rfl
        | some c => simp
theorem exprL_none (sl : List (List UInt8)) : ∀ (ks : List Nd) (k : Nat) (h : k < ks.length), exprC sl ks[k] = none → exprL sl ks = none
  | x :: r, 0, _, h => by simp at h; simp [exprL, h]
  | x :: r, k + 1, hk, h => by
    have := exprL_none sl r k (by simpa using hk) (by simpa using h)
    simp only [exprL, this]
    cases exprC sl x <;> rfl
theorem AskR.next {sl : List (List UInt8)} {w wr w2 : World} {B b n k : Nat} {v v1 v2 : Value} {xs new a : List Value} {ks : List Nd} (hE : Em w B b v n xs) (h : AskR sl w B b v n xs ks wr k new v1) (hk : k < ks.length) (ha : exprC sl ks[k] = some a)
    (hl : Lays wr B b v1 (n + cnt new) (xs ++ new) a (cnt a) v2 w2) : AskR sl w B b v n xs ks w2 (k + 1) (new ++ a) v2 := by
  refine ⟨hk, by rw [exprL_take sl ks k hk, h.code, ha]; rfl, ?_⟩
  have := h.lays.trans hl
  rwa [← cnt_add (h.lays.len hE)] at this
end Go.Proofs.Ytfkgfibmhhlemaa
namespace Go.Proofs.Ytfkgfibmhhlemaa
open Go.RowKit Go.Maps Go.WideMaps
theorem ask_close {sl : List (List UInt8)} {w wr w' : World} {B b n : Nat} {v v1 : Value} {xs new : List Value} {ks : List Nd} {t : ByteArray} {o : Option (List Value)} (hE : Em w B b v n xs) (h : AskR sl w B b v n xs ks wr ks.length new v1) (ho : o = (exprL sl ks).map (· ++ ins 17 ks.length f0 t))
    (h3 : PutPost wr B b v1 (n + cnt new + 1) (xs ++ new ++ ins 17 ks.length f0 t) (.returned (.tuple #[])) w') : ExprPost w B b v n xs o (.returned (.tuple #[])) w' := by
  have := h.code
  rw [List.take_length] at this
  rw [ho, this]
  exact one_close hE h.lays h3
theorem Lays.drew {w w' : World} {B b n m : Nat} {v v' : Value} {xs new : List Value} (h : Lays w B b v n xs new m v' w') : Lays w B b v n xs new m v' w'.drew :=
  ⟨⟨h.em.cell, h.em.fz, h.em.own, h.em.ne⟩, h.cells, h.frozen, ⟨h.kept.os, h.kept.tape, h.kept.output, h.kept.size, h.kept.block⟩, h.fresh⟩
theorem AskR.drew {sl : List (List UInt8)} {w wr : World} {B b n k : Nat} {v v1 : Value} {xs new : List Value} {ks : List Nd} (h : AskR sl w B b v n xs ks wr k new v1) : AskR sl w B b v n xs ks wr.drew k new v1 := ⟨h.le, h.code, h.lays.drew⟩
set_option maxRecDepth 100000 in
set_option maxHeartbeats 800000 in
/-- a call of a function -/
theorem expr_ask (R : Nat → Prop) (sl : List (List UInt8)) (B b mb : Nat) (v : Value) (n : Nat) (xs : List Value) (w : World) (hC : Cst R sl w B b mb v n xs)
    (nb no kb ko : Nat) (t : ByteArray) (ht : t.size ≤ maxLen) (x : Nat) (cap : Nat) (ks : List Nd) (hf : fnOf t.toList = some (ks.length : Int)) (hl : ks.length ≤ cap) (hcap : cap ≤ 9223372036854775807) (a : Int) (hn : NodeP R w nb no 19 t x (.slice (some ⟨kb, ko, none⟩) ks.length cap) ks a)
    (o : Option (List Value)) (ho : Hid (o = (exprL sl ks).map (· ++ ins 17 ks.length f0 t)))
    (hkids : ∀ k (hk : k < ks.length) new v1 w1, AskR sl w B b v n xs ks w1 k new v1 → Calls Try.prog 38 #[.pointer (some ⟨b, 0, none⟩), .pointer (some ⟨kb, ko + k * 5, none⟩)] w1 (ExprPost w1 B b v1 (n + cnt new) (xs ++ new) (exprC sl ks[k])))
    (hput : ∀ new v1 w1, AskR sl w B b v n xs ks w1 ks.length new v1 → Calls Try.prog 19 #[.pointer (some ⟨b, 0, none⟩), .agg #[.int .i64 17, .int .i64 ks.length, .float .f64 0, .string t]] w1 (PutPost w1 B b v1 (n + cnt new + 1) (xs ++ new ++ ins 17 ks.length f0 t))) :
    Calls Try.prog 38 #[.pointer (some ⟨b, 0, none⟩), .pointer (some ⟨nb, no, none⟩)] w (ExprPost w B b v n xs o) := by
  have hnk : ∀ w1, Lays w B b v n xs [] 0 v w1 → w1.cell? ⟨nb, no, none⟩ = some (.int .i64 19) ∧ w1.cell? ⟨nb, no + 1, none⟩ = some (.string t) ∧ w1.cell? ⟨nb, no + 3, none⟩ = some (.slice (some ⟨kb, ko, none⟩) ks.length cap) := fun w1 h => by
    have := hn.kept (hC.rblock h.kept)
    exact ⟨this.c0, this.c1, this.c3⟩
  have hnr : ∀ wr k new v1, AskR sl w B b v n xs ks wr k new v1 → wr.cell? ⟨nb, no + 1, none⟩ = some (.string t) ∧ wr.cell? ⟨nb, no + 3, none⟩ = some (.slice (some ⟨kb, ko, none⟩) ks.length cap) := fun wr k new v1 h => by
    have := hn.kept (hC.rblock h.lays.kept)
    exact ⟨this.c1, this.c3⟩
  obtain ⟨_, c0, c1, c2, c3, c4, _, _⟩ := hn
  have hlk := fun w1 (h : Kp (fun _ => False) w w1) => Lays.kp hC.em h
  have hE := hC.em
  have hargs : Calls Try.prog 50 #[.string t] w fun e w' => e = .returned (.tuple #[.int .i64 ks.length, .bool true]) ∧ Lays w B b v n xs [] 0 v w' := (args_any t ht w).mono fun e w' h => ⟨by rw [h.1, hf]; rfl, hlk _ h.2⟩
  clear hC hf hlk
  go_enter Try.func38, Try.ntmps38
  go_wp2_with (first | (go_at_call 50; refine hargs.mono ?_; rintro e w1 ⟨rfl, hl1⟩; obtain ⟨d0, d1, d3⟩ := hnk _ hl1) | (go_at_call 26; refine (fail_no _).mono ?_; rintro e w' ⟨rfl, rfl⟩))
  go_loopw [140] (fun i wr => ∃ (k : Nat) (new : List Value) (v1 : Value), i = .int .i64 k ∧ AskR sl w B b v n xs ks wr k new v1) (fun i _ => ks.length - (intOf i).toNat)
  case atStart => exact ⟨0, [], v, rfl, Nat.zero_le _, rfl, hl1⟩
  case round =>
    obtain ⟨k, new, v1, rfl, hA⟩ := hrel
    obtain ⟨g1, g3⟩ := hnr _ _ _ _ hA
    by_cases hlt : k < ks.length
    · have hc := hkids k hlt new v1 _ hA
      cases hB : exprC sl ks[k] with
      | none =>
        rw [hB] at hc
        go_wp2_with (go_at_call 38; refine hc.mono ?_; intro e w2 hp2; obtain ⟨rfl, hk2⟩ := hp2)
        have hx : o = none := by have h1 : o = _ := ho; rw [h1, exprL_none sl ks k hlt hB]; rfl
        subst hx
        exact ⟨rfl, rfl, Kp.after hA.lays hk2⟩
      | some na =>
        rw [hB] at hc
        go_wp2_with (go_at_call 38; refine hc.mono ?_; intro e w2 hp2; obtain ⟨rfl, v2, hl2⟩ := hp2)
        go_roundw
        case rel => exact ⟨k + 1, new ++ na, v2, by go_num, hA.next hE hlt hB hl2⟩
        case measure => simp [intOf]; omega
    · obtain rfl : k = ks.length := by have := hA.le; omega
      have hA' := hA.drew
      have hp := hput _ _ _ hA'
      have hcl := fun w' => ask_close (w' := w') hE hA' ho
      clear hput hkids hnr hnk hA hA'
      go_wp2_with fail
      go_region_with (go_at_call 19; refine hp.mono ?_; intro e w' hpp; obtain rfl : e = .returned (.tuple #[]) := hpp.1)
      all_goals
        go_end0
        exact hcl _ hpp
end Go.Proofs.Ytfkgfibmhhlemaa
namespace Go.Proofs.Ytfkgfibmhhlemaa
open Go.RowKit Go.Maps Go.WideMaps
theorem Kp.weak {w w' : World} {S : Nat → Prop} (h : Kp (fun _ => False) w w') : Kp S w w' := ⟨h.os, h.tape, h.output, h.size, fun k hk _ => h.block k hk (fun e => e)⟩
set_option maxRecDepth 100000 in
set_option maxHeartbeats 800000 in
/-- a call of no function -/
theorem expr_ask_no (R : Nat → Prop) (S : Nat → Prop) (b : Nat) (w : World) (nb no : Nat) (t : ByteArray) (ht : t.size ≤ maxLen) (hf : fnOf t.toList = none) (x : Nat) (V : Value) (ks : List Nd) (a : Int) (hn : NodeP R w nb no 19 t x V ks a) (hB : nb < w.heap.size) :
    Calls Try.prog 38 #[.pointer (some ⟨b, 0, none⟩), .pointer (some ⟨nb, no, none⟩)] w fun e w' => e = thrown ∧ Kp S w w' := by
  obtain ⟨_, c0, c1, c2, c3, c4, _, _⟩ := hn
  have hkp := fun w1 (h : Kp (fun _ => False) w w1) => (World.cell?_of_block (a := ⟨nb, no + 3, none⟩) (h.block nb hB (fun e => e))).trans c3
  have hargs : Calls Try.prog 50 #[.string t] w fun e w' => e = .returned (.tuple #[.int .i64 0, .bool false]) ∧ Kp (fun _ => False) w w' := (args_any t ht w).mono fun e w' h => ⟨by rw [h.1, hf]; rfl, h.2⟩
  clear hf
  go_enter Try.func38, Try.ntmps38
  go_wp2_with (first | (go_at_call 50; refine hargs.mono ?_; rintro e w1 ⟨rfl, hk1⟩; have d3 := hkp _ hk1) | (go_at_call 26; refine (fail_yes _).mono ?_; rintro e w' ⟨rfl, rfl⟩))
  exact ⟨rfl, rfl, hk1.weak⟩
set_option maxRecDepth 100000 in
set_option maxHeartbeats 800000 in
/-- a call of a function with another number of arguments -/
theorem expr_ask_many (R : Nat → Prop) (S : Nat → Prop) (b : Nat) (w : World) (nb no : Nat) (t : ByteArray) (ht : t.size ≤ maxLen) (k : Int) (hf : fnOf t.toList = some k) (x : Nat) (ao : Option Addr) (cap : Nat) (ks : List Nd) (hk : (k != (ks.length : Int)) = true) (a : Int) (hn : NodeP R w nb no 19 t x (.slice ao ks.length cap) ks a) (hB : nb < w.heap.size) :
    Calls Try.prog 38 #[.pointer (some ⟨b, 0, none⟩), .pointer (some ⟨nb, no, none⟩)] w fun e w' => e = thrown ∧ Kp S w w' := by
  obtain ⟨_, c0, c1, c2, c3, c4, _, _⟩ := hn
  have hkp := fun w1 (h : Kp (fun _ => False) w w1) => (⟨(World.cell?_of_block (a := ⟨nb, no + 3, none⟩) (h.block nb hB (fun e => e))).trans c3, (World.cell?_of_block (a := ⟨nb, no, none⟩) (h.block nb hB (fun e => e))).trans c0⟩ : _ ∧ _)
  have hargs : Calls Try.prog 50 #[.string t] w fun e w' => e = .returned (.tuple #[.int .i64 k, .bool true]) ∧ Kp (fun _ => False) w w' := (args_any t ht w).mono fun e w' h => ⟨by rw [h.1, hf]; rfl, h.2⟩
  clear hf
  go_enter Try.func38, Try.ntmps38
  go_wp2_with (first | (go_at_call 50; refine hargs.mono ?_; rintro e w1 ⟨rfl, hk1⟩; obtain ⟨d3, d0⟩ := hkp _ hk1) | (go_at_call 26; refine (fail_yes _).mono ?_; rintro e w' ⟨rfl, rfl⟩))
  exact ⟨rfl, rfl, hk1.weak⟩
set_option maxRecDepth 100000 in
set_option maxHeartbeats 800000 in
/-- a call with no arguments -/
theorem expr_ask_nil (R : Nat → Prop) (sl : List (List UInt8)) (B b mb : Nat) (v : Value) (n : Nat) (xs : List Value) (w : World) (hC : Cst R sl w B b mb v n xs)
    (nb no : Nat) (t : ByteArray) (ht : t.size ≤ maxLen) (x : Nat) (hf : fnOf t.toList = some (0 : Int)) (a : Int) (q : Option Addr) (cq : Nat) (hn : NodeP R w nb no 19 t x (.slice q 0 cq) [] a)
    (hput : ∀ w1, Lays w B b v n xs [] 0 v w1 → Calls Try.prog 19 #[.pointer (some ⟨b, 0, none⟩), .agg #[.int .i64 17, .int .i64 0, .float .f64 0, .string t]] w1 (PutPost w1 B b v (n + 1) (xs ++ ins 17 0 f0 t))) :
    Calls Try.prog 38 #[.pointer (some ⟨b, 0, none⟩), .pointer (some ⟨nb, no, none⟩)] w (ExprPost w B b v n xs (some (ins 17 0 f0 t))) := by
  have hnk : ∀ w1, Lays w B b v n xs [] 0 v w1 → w1.cell? ⟨nb, no, none⟩ = some (.int .i64 19) ∧ w1.cell? ⟨nb, no + 1, none⟩ = some (.string t) ∧ w1.cell? ⟨nb, no + 3, none⟩ = some (.slice q 0 cq) := fun w1 h => by
    have := hn.kept (hC.rblock h.kept)
    exact ⟨this.c0, this.c1, this.c3⟩
  obtain ⟨_, c0, c1, c2, c3, c4, _, _⟩ := hn
  have hlk := fun w1 (h : Kp (fun _ => False) w w1) => Lays.kp hC.em h
  have hE := hC.em
  have hargs : Calls Try.prog 50 #[.string t] w fun e w' => e = .returned (.tuple #[.int .i64 0, .bool true]) ∧ Lays w B b v n xs [] 0 v w' := (args_any t ht w).mono fun e w' h => ⟨by rw [h.1, hf]; rfl, hlk _ h.2⟩
  have hcl : ∀ w1 w', Lays w B b v n xs [] 0 v w1 → PutPost w1 B b v (n + 1) (xs ++ ins 17 0 f0 t) (.returned (.tuple #[])) w' → ExprPost w B b v n xs (some (ins 17 0 f0 t)) (.returned (.tuple #[])) w' := fun w1 w' h1 h2 => one_close (new := []) hE h1 (by rw [List.append_nil]; exact h2)
  clear hC hf hlk hE
  go_enter Try.func38, Try.ntmps38
  go_wp2_with (first | (go_at_call 50; refine hargs.mono ?_; rintro e w1 ⟨rfl, hl1⟩; obtain ⟨d0, d1, d3⟩ := hnk _ hl1) | (go_at_call 26; refine (fail_no _).mono ?_; rintro e w' ⟨rfl, rfl⟩))
  go_loopw [140] (fun i wr => i = .int .i64 0 ∧ Lays w B b v n xs [] 0 v wr ∧ wr.cell? ⟨nb, no + 1, none⟩ = some (.string t) ∧ wr.cell? ⟨nb, no + 3, none⟩ = some (.slice q 0 cq)) (fun _ _ => 0)
  case atStart => exact ⟨rfl, hl1, d1, d3⟩
  case round =>
    obtain ⟨rfl, hl, g1, g3⟩ := hrel
    have hp := hput _ hl.drew
    have hcl2 := fun w' => hcl _ w' hl.drew
    clear hput hnk hcl
    go_wp2_with fail
    go_region_with (go_at_call 19; refine hp.mono ?_; intro e w' hpp; obtain rfl : e = .returned (.tuple #[]) := hpp.1)
    all_goals
      go_end0
      exact hcl2 _ hpp
end Go.Proofs.Ytfkgfibmhhlemaa
namespace Go.Proofs.Ytfkgfibmhhlemaa
open Go.RowKit Go.Maps Go.WideMaps
mutual
theorem exprC_len (sl : List (List UInt8)) : ∀ (nd : Nd) (new : List Value), exprC sl nd = some new → new.length ≤ 4 * nd.wt
  | .mk k t x ks a, new, h => by
    rw [exprC] at h
    rw [Nd.wt]
    have ihL := exprL_len sl ks
    split at h
    · split at h
      · cases h; simp; omega
      · cases h
    split at h
    · split at h
      · cases h; simp; omega
      · cases h
    split at h
    · split at h
      · cases hs : slotOf sl t.toList <;> rw [hs] at h <;> simp at h
        rw [← h]; simp; omega
      · cases h
    split at h
    · split at h
      · split at h
        · cases hL : exprL sl ks with
          | none => rw [hL] at h; cases h
          | some c => rw [hL] at h; have := ihL c hL; simp at h; rw [← h]; simp; omega
        · cases h
      · cases h
    split at h
    · split at h
      · split at h
        · cases hL : exprL sl ks with
          | none => rw [hL] at h; cases h
          | some c => rw [hL] at h; have := ihL c hL; simp at h; rw [← h]; simp; omega
        · cases h
      · cases h
    split at h
    · split at h
      · cases hL : exprL sl ks with
        | none => rw [hL] at h; cases h
        | some c => rw [hL] at h; have := ihL c hL; simp at h; rw [← h]; simp; omega
      · cases h
    · cases h
theorem exprL_len (sl : List (List UInt8)) : ∀ (ks : List Nd) (new : List Value), exprL sl ks = some new → new.length ≤ 4 * wtL ks
  | [], new, h => by rw [exprL] at h; cases h; simp
  | n :: r, new, h => by
    rw [exprL] at h
    rw [wtL]
    have h1 := exprC_len sl n
    have h2 := exprL_len sl r
    cases ha : exprC sl n with
    | none => rw [ha] at h; cases h
    | some a => cases hb : exprL sl r with
      | none => rw [ha, hb] at h; cases h
      | some b => rw [ha, hb] at h; have := h1 a ha; have := h2 b hb; simp at h; rw [← h]; simp; omega
end
theorem wtL_take : ∀ (ks : List Nd) (k : Nat) (h : k < ks.length), wtL (ks.take k) + ks[k].wt ≤ wtL ks
  | n :: r, 0, _ => by simp [wtL]
  | n :: r, k + 1, h => by
    have := wtL_take r k (by simpa using h)
    simp only [List.take_succ_cons, wtL, List.getElem_cons_succ]; omega
theorem wt_pos (nd : Nd) : 1 ≤ nd.wt := by cases nd; rw [Nd.wt]; omega
theorem len_wtL : ∀ ks : List Nd, ks.length ≤ wtL ks
  | [] => by simp
  | n :: r => by have := len_wtL r; have := wt_pos n; simp [wtL]; omega
theorem cnt_le {l : List Value} {m : Nat} (h : l.length ≤ 4 * m) : cnt l ≤ m := by unfold cnt; omega
theorem cnt_ins (op arg : Int) (num : Value) (tx : ByteArray) : cnt (ins op arg num tx) = 1 := by simp [cnt]
theorem exprPost_none {w : World} {B b n : Nat} {v : Value} {xs : List Value} {o : Option (List Value)} (ho : o = none) {e : Ending} {w' : World} (h : e = thrown ∧ w' = w) : ExprPost w B b v n xs o e w' := by
  obtain ⟨rfl, rfl⟩ := h; subst ho; exact ⟨rfl, kp_refl _ _⟩
theorem exprPost_put {w : World} {B b n : Nat} {v : Value} {xs : List Value} {op arg : Int} {num : Value} {tx : ByteArray} {o : Option (List Value)} (ho : o = some (ins op arg num tx)) {e : Ending} {w' : World} (h : PutPost w B b v (n + 1) (xs ++ ins op arg num tx) e w') : ExprPost w B b v n xs o e w' := by
  subst ho; exact ⟨h.1, by rw [cnt_ins]; exact Lays.of_put h⟩
def ExprOk (nd : Nd) : Prop := ∀ (R : Nat → Prop) (sl : List (List UInt8)) (w : World) (B b mb : Nat) (v : Value) (n : Nat) (xs : List Value) (nb no : Nat) (k : Int) (t : ByteArray) (x : Nat) (S : Value) (ks : List Nd) (a : Int), nd = .mk k t x ks a →
  Cst R sl w B b mb v n xs → NodeP R w nb no k t x S ks a → n + nd.wt + 1 ≤ 3518437208883 →
  Calls Try.prog 38 #[.pointer (some ⟨b, 0, none⟩), .pointer (some ⟨nb, no, none⟩)] w (ExprPost w B b v n xs (exprC sl nd))
theorem ExprOk.at {nd : Nd} (h : ExprOk nd) {R : Nat → Prop} {sl : List (List UInt8)} {w : World} {B b mb : Nat} {v : Value} {n : Nat} {xs : List Value} {nb no : Nat} {k : Int} {t : ByteArray} {x : Nat} {kb ko ln cap : Nat} {ks : List Nd} {a : Int} (hC : Cst R sl w B b mb v n xs)
    (hn : NodeP R w nb no k t x (.slice (some ⟨kb, ko, none⟩) ln cap) ks a) (i : Nat) (hi : i < ks.length) (hnd : ks[i] = nd) (hs : n + nd.wt + 1 ≤ 3518437208883) :
    Calls Try.prog 38 #[.pointer (some ⟨b, 0, none⟩), .pointer (some ⟨kb, ko + i * 5, none⟩)] w (ExprPost w B b v n xs (exprC sl nd)) := by
  obtain ⟨k', t', x', S', ks', a', e, hp⟩ := hn.kid i hi
  exact h R sl w B b mb v n xs kb (ko + i * 5) k' t' x' S' ks' a' (hnd.symm.trans e) hC hp hs
end Go.Proofs.Ytfkgfibmhhlemaa
namespace Go.Proofs.Ytfkgfibmhhlemaa
open Go.RowKit Go.Maps Go.WideMaps
theorem SlAt.some {n : Nat} {S : Value} (h : SlAt n S) (h0 : n ≠ 0) : ∃ b o cap, S = .slice (some ⟨b, o, none⟩) n cap ∧ n ≤ cap ∧ cap ≤ 9223372036854775807 := by
  rcases h with ⟨e, _⟩ | ⟨b, o, cap, rfl, h1, h2⟩
  · exact absurd e h0
  · unfold maxLen at h2; exact ⟨b, o, cap, rfl, h1, h2⟩
theorem room1 {n m : Nat} (h : n + m + 1 ≤ 3518437208883) : n + 1 ≤ maxLen := by unfold maxLen; omega
theorem room2 {n m : Nat} (h : n + m + 1 ≤ 3518437208883) : (n + 1) * 40 ≤ 140737488355328 := Nat.le_trans (Nat.mul_le_mul_right 40 (show n + 1 ≤ 3518437208883 by omega)) (by decide)
theorem room5 {n m s : Nat} (h : n + m + 1 ≤ 3518437208883) (hk : s ≤ m) : s ≤ maxLen := by unfold maxLen; omega
section
variable {R : Nat → Prop} {sl : List (List UInt8)} {w : World} {B b mb : Nat} {v : Value} {n : Nat} {xs : List Value} {nb no : Nat} {t : ByteArray} {x : Nat} {S : Value} {ks : List Nd} {a : Int}
theorem expr_15 (hC : Cst R sl w B b mb v n xs) (hn : NodeP R w nb no 15 t x S ks a) (hs : n + Nd.wt (.mk 15 t x ks a) + 1 ≤ 3518437208883) :
    Calls Try.prog 38 #[.pointer (some ⟨b, 0, none⟩), .pointer (some ⟨nb, no, none⟩)] w (ExprPost w B b v n xs (exprC sl (.mk 15 t x ks a))) := by
  rw [Nd.wt] at hs
  obtain ⟨ao, cap, rfl, hl⟩ := hn.len.slice
  rw [exprC, if_pos rfl]
  by_cases h0 : ks.length = 0
  · rw [if_pos h0]
    obtain rfl := List.eq_nil_of_length_eq_zero h0
    exact (expr_number R B b v n xs w hC.bs hC.em (room1 hs) (room2 hs) nb no t x ao cap a hn).mono fun _ _ => exprPost_put rfl
  · rw [if_neg h0]
    exact (expr_leaf_no R b w nb no 15 (by decide) t x ao cap ks a hl h0 hn).mono fun _ _ => exprPost_none rfl
theorem expr_16 (hC : Cst R sl w B b mb v n xs) (hn : NodeP R w nb no 16 t x S ks a) (hs : n + Nd.wt (.mk 16 t x ks a) + 1 ≤ 3518437208883) :
    Calls Try.prog 38 #[.pointer (some ⟨b, 0, none⟩), .pointer (some ⟨nb, no, none⟩)] w (ExprPost w B b v n xs (exprC sl (.mk 16 t x ks a))) := by
  rw [Nd.wt] at hs
  obtain ⟨ao, cap, rfl, hl⟩ := hn.len.slice
  rw [exprC, if_neg (by decide), if_pos rfl]
  by_cases h0 : ks.length = 0
  · rw [if_pos h0]
    obtain rfl := List.eq_nil_of_length_eq_zero h0
    exact (expr_text R B b v n xs w hC.bs hC.em (room1 hs) (room2 hs) nb no t x ao cap a hn).mono fun _ _ => exprPost_put rfl
  · rw [if_neg h0]
    exact (expr_leaf_no R b w nb no 16 (by decide) t x ao cap ks a hl h0 hn).mono fun _ _ => exprPost_none rfl
theorem expr_14 (hC : Cst R sl w B b mb v n xs) (hn : NodeP R w nb no 14 t x S ks a) (hs : n + Nd.wt (.mk 14 t x ks a) + 1 ≤ 3518437208883) :
    Calls Try.prog 38 #[.pointer (some ⟨b, 0, none⟩), .pointer (some ⟨nb, no, none⟩)] w (ExprPost w B b v n xs (exprC sl (.mk 14 t x ks a))) := by
  rw [Nd.wt] at hs
  obtain ⟨ao, cap, rfl, hl⟩ := hn.len.slice
  rw [exprC, if_neg (by decide), if_neg (by decide), if_pos rfl]
  by_cases h0 : ks.length = 0
  · rw [if_pos h0]
    obtain rfl := List.eq_nil_of_length_eq_zero h0
    obtain ⟨D, hown, _, hat⟩ := hC.map
    have hat := hat t.data.toList
    rw [← ByteArray.toList_eq t] at hat
    have ht : t.size ≤ maxLen := room5 hs (by omega)
    cases ho : slotOf sl t.toList with
    | some i =>
      rw [ho, ByteArray.toList_eq t] at hat
      exact (expr_name R B b v n xs w hC.bs hC.em (room1 hs) (room2 hs) mb sl.length D i hC.cell hown nb no t ht hat x ao cap a hn).mono fun _ _ => exprPost_put rfl
    | none =>
      rw [ho, ByteArray.toList_eq t] at hat
      refine (expr_name_no R b w mb sl.length D hC.cell hown nb no t ht hat x ao cap a hn).mono fun _ _ h => ?_
      obtain ⟨rfl, rfl⟩ := h
      exact ⟨rfl, rfl, rfl, rfl, Nat.le_refl _, fun _ _ _ => rfl⟩
  · rw [if_neg h0]
    exact (expr_leaf_no R b w nb no 14 (by decide) t x ao cap ks a hl h0 hn).mono fun _ _ => exprPost_none rfl
theorem expr_17 (ih : ∀ i (h : i < ks.length), ExprOk ks[i]) (hC : Cst R sl w B b mb v n xs) (hn : NodeP R w nb no 17 t x S ks a) (hs : n + Nd.wt (.mk 17 t x ks a) + 1 ≤ 3518437208883) :
    Calls Try.prog 38 #[.pointer (some ⟨b, 0, none⟩), .pointer (some ⟨nb, no, none⟩)] w (ExprPost w B b v n xs (exprC sl (.mk 17 t x ks a))) := by
  rw [Nd.wt] at hs
  rw [exprC, if_neg (by decide), if_neg (by decide), if_neg (by decide), if_pos rfl]
  by_cases hsg : t.toList = [45] ∨ t.toList = [33]
  · rw [if_pos hsg]
    by_cases h1 : ks.length = 1
    · rw [if_pos h1]
      obtain ⟨kb, ko, cap, rfl, _, _⟩ := hn.len.some (by omega)
      obtain ⟨kd, rfl⟩ : ∃ kd, ks = [kd] := by
        match ks, h1 with
        | [kd], _ => exact ⟨kd, rfl⟩
      rw [wtL, wtL] at hs
      have hkid := (ih 0 (by simp)).at hC hn 0 (by simp) rfl (by simp only [List.getElem_cons_zero]; omega)
      rw [Nat.zero_mul, Nat.add_zero] at hkid
      simp only [List.getElem_cons_zero] at hkid
      simp only [exprL]
      cases hc : exprC sl kd with
      | none =>
        rw [hc] at hkid
        exact expr_unary_kid R B b v n xs w nb no kb ko t hsg.symm x cap kd a hn hkid
      | some new =>
        rw [hc] at hkid
        have hln := cnt_le (exprC_len sl kd new hc)
        simp only [Option.bind_some, Option.map_some, List.append_nil]
        refine expr_unary R B b v n xs new w hC.em nb no kb ko t (if t.toList = [33] then 6 else 5) ?_ x cap kd a hn hkid fun w1 v1 hl => ?_
        · rcases hsg with e | e
          · exact .inr ⟨by rw [e]; decide, e⟩
          · exact .inl ⟨by rw [e]; decide, e⟩
        · exact put_any B b v1 (n + cnt new) (xs ++ new) _ 0 f0 noText w1 (hC.lays hl).bs hl.em rfl (room1 (m := 0) (by omega)) (room2 (m := 0) (by omega))
    · rw [if_neg h1]
      obtain ⟨ao, cap, rfl, hl⟩ := hn.len.slice
      exact (expr_unary_many R b w nb no t hsg.symm x ao cap ks hl h1 a hn).mono fun _ _ => exprPost_none rfl
  · rw [if_neg hsg]
    exact (expr_unary_sign R b w nb no t (fun e => hsg (.inr e)) (fun e => hsg (.inl e)) x S ks a hn).mono fun _ _ => exprPost_none rfl
end
end Go.Proofs.Ytfkgfibmhhlemaa
namespace Go.Proofs.Ytfkgfibmhhlemaa
open Go.RowKit Go.Maps Go.WideMaps
section
variable {R : Nat → Prop} {sl : List (List UInt8)} {w : World} {B b mb : Nat} {v : Value} {n : Nat} {xs : List Value} {nb no : Nat} {t : ByteArray} {x : Nat} {S : Value} {ks : List Nd} {a : Int}
theorem expr_18 (ih : ∀ i (h : i < ks.length), ExprOk ks[i]) (hC : Cst R sl w B b mb v n xs) (hn : NodeP R w nb no 18 t x S ks a) (hs : n + Nd.wt (.mk 18 t x ks a) + 1 ≤ 3518437208883) :
    Calls Try.prog 38 #[.pointer (some ⟨b, 0, none⟩), .pointer (some ⟨nb, no, none⟩)] w (ExprPost w B b v n xs (exprC sl (.mk 18 t x ks a))) := by
  rw [Nd.wt] at hs
  rw [exprC, if_neg (by decide), if_neg (by decide), if_neg (by decide), if_neg (by decide), if_pos rfl]
  cases hsg : signO t with
  | none => exact (expr_binary_sign R b w nb no t hsg x S ks a hn).mono fun _ _ => exprPost_none rfl
  | some op =>
    simp only
    by_cases h2 : ks.length = 2
    · rw [if_pos h2]
      obtain ⟨kb, ko, cap, rfl, _, _⟩ := hn.len.some (by omega)
      obtain ⟨k1, k2, rfl⟩ : ∃ k1 k2, ks = [k1, k2] := by
        match ks, h2 with
        | [k1, k2], _ => exact ⟨k1, k2, rfl⟩
      rw [wtL, wtL, wtL] at hs
      have hkid := (ih 0 (by simp)).at hC hn 0 (by simp) rfl (by simp only [List.getElem_cons_zero]; omega)
      rw [Nat.zero_mul, Nat.add_zero] at hkid
      simp only [List.getElem_cons_zero] at hkid
      simp only [exprL]
      cases hc : exprC sl k1 with
      | none =>
        rw [hc] at hkid
        exact expr_binary_kid R B b v n xs w nb no kb ko t op hsg x cap _ a hn hkid
      | some new =>
        rw [hc] at hkid
        have hln := cnt_le (exprC_len sl k1 new hc)
        have hkeep : ∀ w1 v1, Lays w B b v n xs new (cnt new) v1 w1 → NodeP R w1 nb no 18 t x (.slice (some ⟨kb, ko, none⟩) 2 cap) [k1, k2] a := fun w1 v1 hl => hn.kept (hC.rblock hl.kept)
        have hkid2 : ∀ w1 v1, Lays w B b v n xs new (cnt new) v1 w1 → Calls Try.prog 38 #[.pointer (some ⟨b, 0, none⟩), .pointer (some ⟨kb, ko + 5, none⟩)] w1 (ExprPost w1 B b v1 (n + cnt new) (xs ++ new) (exprC sl k2)) := fun w1 v1 hl =>
          (ih 1 (by simp)).at (hC.lays hl) (hkeep w1 v1 hl) 1 (by simp) rfl (by simp only [List.getElem_cons_succ, List.getElem_cons_zero]; omega)
        cases hc2 : exprC sl k2 with
        | none =>
          rw [hc2] at hkid2
          exact expr_binary_kid2 R B b v n xs new w nb no kb ko t op hsg x cap _ a hn hkid (fun w1 v1 hl => (hkeep w1 v1 hl).c3) hkid2
        | some new2 =>
          rw [hc2] at hkid2
          have hln2 := cnt_le (exprC_len sl k2 new2 hc2)
          simp only [Option.bind_some, Option.map_some, List.append_nil]
          exact expr_binary R B b v n xs new new2 w hC.em nb no kb ko t op hsg x cap _ rfl a hn hkid (fun w1 v1 hl => (hkeep w1 v1 hl).c3) hkid2 fun w1 v1 w2 v2 hl hl2 =>
            put_any B b v2 (n + cnt new + cnt new2) (xs ++ new ++ new2) _ 0 f0 noText w2 ((hC.lays hl).lays hl2).bs hl2.em rfl (room1 (m := 0) (by omega)) (room2 (m := 0) (by omega))
    · rw [if_neg h2]
      obtain ⟨ao, cap, rfl, hl⟩ := hn.len.slice
      exact (expr_binary_many R b w nb no t op hsg x ao cap ks hl h2 a hn).mono fun _ _ => exprPost_none rfl
theorem expr_19 (ih : ∀ i (h : i < ks.length), ExprOk ks[i]) (hC : Cst R sl w B b mb v n xs) (hn : NodeP R w nb no 19 t x S ks a) (hs : n + Nd.wt (.mk 19 t x ks a) + 1 ≤ 3518437208883) :
    Calls Try.prog 38 #[.pointer (some ⟨b, 0, none⟩), .pointer (some ⟨nb, no, none⟩)] w (ExprPost w B b v n xs (exprC sl (.mk 19 t x ks a))) := by
  rw [Nd.wt] at hs
  rw [exprC, if_neg (by decide), if_neg (by decide), if_neg (by decide), if_neg (by decide), if_neg (by decide), if_pos rfl]
  have ht : t.size ≤ maxLen := room5 (m := 1 + t.size + wtL ks) hs (by omega)
  have hB : nb < w.heap.size := Nat.lt_of_lt_of_le (hC.rB nb hn.r) hC.bs
  by_cases hf : fnOf t.toList = some (ks.length : Int)
  · rw [if_pos hf]
    by_cases h0 : ks.length = 0
    · obtain rfl := List.eq_nil_of_length_eq_zero h0
      have hp : ∀ w1, Lays w B b v n xs [] 0 v w1 → Calls Try.prog 19 #[.pointer (some ⟨b, 0, none⟩), .agg #[.int .i64 17, .int .i64 0, .float .f64 0, .string t]] w1 (PutPost w1 B b v (n + 1) (xs ++ ins 17 0 f0 t)) := fun w1 hl =>
        put_any B b v n xs 17 0 f0 t w1 (hC.lays hl).bs (by simpa using hl.em) rfl (room1 (m := 0) (by omega)) (room2 (m := 0) (by omega))
      rcases hn.len with ⟨_, q, cq, rfl, _⟩ | ⟨kb, ko, cap, rfl, h1, h2⟩
      · exact expr_ask_nil R sl B b mb v n xs w hC nb no t ht x hf a q cq hn hp
      · unfold maxLen at h2
        refine expr_ask R sl B b mb v n xs w hC nb no kb ko t ht x cap [] hf h1 h2 a hn _ rfl (fun k hk => absurd hk (Nat.not_lt_zero _)) fun new v1 w1 hA => ?_
        obtain rfl : [] = new := by have := hA.code; simp [exprL] at this; exact this.symm
        obtain ⟨_, _, hl⟩ := hA
        exact put_any B b v1 n _ 17 0 f0 t w1 (hC.lays hl).bs (by simpa [cnt] using hl.em) rfl (room1 (m := 0) (by omega)) (room2 (m := 0) (by omega))
    · obtain ⟨kb, ko, cap, rfl, h1, h2⟩ := hn.len.some h0
      refine expr_ask R sl B b mb v n xs w hC nb no kb ko t ht x cap ks hf h1 h2 a hn _ rfl (fun k hk new v1 w1 hA => ?_) fun new v1 w1 hA => ?_
      · have hln := cnt_le (exprL_len sl _ new hA.code)
        have := wtL_take ks k hk
        exact (ih k hk).at (hC.lays hA.lays) (hn.kept (hC.rblock hA.lays.kept)) k hk rfl (by omega)
      · have hcode := hA.code
        rw [List.take_length] at hcode
        have hln := cnt_le (exprL_len sl _ new hcode)
        exact put_any B b v1 (n + cnt new) (xs ++ new) 17 ks.length f0 t w1 (hC.lays hA.lays).bs hA.lays.em rfl (room1 (m := 0) (by omega)) (room2 (m := 0) (by omega))
  · rw [if_neg hf]
    cases hf2 : fnOf t.toList with
    | none => exact (expr_ask_no R _ b w nb no t ht hf2 x S ks a hn hB).mono fun _ _ h => h
    | some k =>
      obtain ⟨ao, cap, rfl, hl⟩ := hn.len.slice
      have hk : (k != (ks.length : Int)) = true := by rw [hf2] at hf; simpa using hf
      exact (expr_ask_many R _ b w nb no t ht k hf2 x ao cap ks hk a hn hB).mono fun _ _ h => h
theorem expr_node (k : Int) (t : ByteArray) (x : Nat) (ks : List Nd) (a : Int) (ih : ∀ i (h : i < ks.length), ExprOk ks[i]) : ExprOk (.mk k t x ks a) := by
  intro R sl w B b mb v n xs nb no k t x S ks a e hC hn hs
  cases e
  by_cases h15 : k = 15
  · subst h15; exact expr_15 hC hn hs
  by_cases h16 : k = 16
  · subst h16; exact expr_16 hC hn hs
  by_cases h14 : k = 14
  · subst h14; exact expr_14 hC hn hs
  by_cases h17 : k = 17
  · subst h17; exact expr_17 ih hC hn hs
  by_cases h18 : k = 18
  · subst h18; exact expr_18 ih hC hn hs
  by_cases h19 : k = 19
  · subst h19; exact expr_19 ih hC hn hs
  rw [exprC, if_neg h15, if_neg h16, if_neg h14, if_neg h17, if_neg h18, if_neg h19]
  exact (expr_kind_no R b w nb no k (by simpa using h14) (by simpa using h15) (by simpa using h16) (by simpa using h17) (by simpa using h18) (by simpa using h19) t x S ks a hn).mono fun _ _ => exprPost_none rfl
end
mutual
theorem expr_any : ∀ nd, ExprOk nd
  | .mk k t x ks a => expr_node k t x ks a (expr_all ks)
theorem expr_all : ∀ (ks : List Nd) (i : Nat) (h : i < ks.length), ExprOk ks[i]
  | [], _, h => absurd h (Nat.not_lt_zero _)
  | n :: _, 0, _ => expr_any n
  | _ :: r, i + 1, h => expr_all r i (Nat.lt_of_succ_lt_succ h)
end
end Go.Proofs.Ytfkgfibmhhlemaa

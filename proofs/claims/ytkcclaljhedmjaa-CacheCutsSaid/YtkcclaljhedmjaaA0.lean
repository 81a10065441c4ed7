import Derived.Test.YtkcclaljhedmjaaRows
import Derived.WalkKit
import Derived.WalkSpells
import Derived.WalkLawsBesides
import Derived.Deep.RegionLaw
import Derived.ArgAppend
import Derived.Maps.OwnOps
namespace Go.Proofs.Ytkcclaljhedmjaa
open Go.RowKit Go.Maps
/-- what a call leaves alone: all but the blocks of S, and new ones -/
structure Kp (S : Nat → Prop) (w w' : World) : Prop where
  os : w'.os = w.os
  tape : w'.tape = w.tape
  output : w'.output = w.output
  size : w.heap.size ≤ w'.heap.size
  block : ∀ k, k < w.heap.size → ¬ S k → w'.heap[k]? = w.heap[k]?
theorem kp_refl (S : Nat → Prop) (w : World) : Kp S w w := ⟨rfl, rfl, rfl, Nat.le_refl _, fun _ _ _ => rfl⟩
theorem kp_alloc (S : Nat → Prop) (w : World) (o : Obj) : Kp S w (w.alloc o) := ⟨rfl, rfl, rfl, by simp, fun k hk _ => heap_alloc_old w o hk⟩
theorem Kp.trans {S : Nat → Prop} {w w1 w2 : World} (h1 : Kp S w w1) (h2 : Kp S w1 w2) : Kp S w w2 :=
  ⟨h2.os.trans h1.os, h2.tape.trans h1.tape, h2.output.trans h1.output, Nat.le_trans h1.size h2.size, fun k hk hn => (h2.block k (Nat.lt_of_lt_of_le hk h1.size) hn).trans (h1.block k hk hn)⟩
theorem Kp.imp {S S' : Nat → Prop} {w w' : World} (h : Kp S w w') (hs : ∀ k, S k → S' k) : Kp S' w w' := ⟨h.os, h.tape, h.output, h.size, fun k hk hn => h.block k hk fun e => hn (hs k e)⟩
theorem Kp.alloc {S : Nat → Prop} {w w1 : World} (h : Kp S w w1) (o : Obj) : Kp S w (w1.alloc o) := h.trans (kp_alloc S w1 o)
theorem Kp.drewN {w w' : World} {S : Nat → Prop} (h : Kp S w w') (n : Nat) : Kp S w (w'.drewN n) := ⟨h.os, h.tape, h.output, h.size, h.block⟩
theorem Kp.drew {w w' : World} {S : Nat → Prop} (h : Kp S w w') : Kp S w w'.drew := ⟨h.os, h.tape, h.output, h.size, h.block⟩
/-- a block of the call's own written -/
theorem Kp.own {S : Nat → Prop} {w w1 w2 : World} {g : Nat} (h : Kp S w w1) (h2 : Kp (fun k => k = g) w1 w2) (hg : w.heap.size ≤ g) : Kp S w w2 :=
  ⟨h2.os.trans h.os, h2.tape.trans h.tape, h2.output.trans h.output, Nat.le_trans h.size h2.size, fun k hk hn => (h2.block k (Nat.lt_of_lt_of_le hk h.size) (by omega)).trans (h.block k hk hn)⟩
theorem set_far {w : World} {g j : Nat} (hn : j ≠ g) (o : Nat) (v : Value) : (w.setCell ⟨g, o, none⟩ v).heap[j]? = w.heap[j]? := by simp [World.setCell, Array.getElem?_modify, hn.symm]
theorem kp_set1 (w : World) (g o : Nat) (v : Value) : Kp (fun k => k = g) w (w.setCell ⟨g, o, none⟩ v) := ⟨rfl, rfl, rfl, by simp [World.setCell], fun _ _ hn => set_far hn _ _⟩
theorem blk_lt {w : World} {b : Nat} {o : Obj} (h : w.heap[b]? = some o) : b < w.heap.size := (Array.getElem?_eq_some_iff.1 h).1
theorem cell_of {w : World} {b : Nat} {cs : Array Value} {ty : TypeId} (h : w.heap[b]? = some (.cells cs ty)) (o : Nat) (v : Value) (hv : cs[o]? = some v) : w.cell? ⟨b, o, none⟩ = some v := by simp [World.cell?, h, hv]
theorem frozen_of {w : World} {b : Nat} {cs : Array Value} {ty : TypeId} (h : w.heap[b]? = some (.cells cs ty)) (o : Nat) : w.frozen? ⟨b, o, none⟩ = false := by simp [World.frozen?, h]
theorem row5 {w : World} {g : Nat} {a b c d e : Value} {ty : TypeId} (h : w.heap[g]? = some (.cells #[a, b, c, d, e] ty)) : (w.cell? ⟨g, 0, none⟩ = some a ∧ w.cell? ⟨g, 1, none⟩ = some b ∧ w.cell? ⟨g, 2, none⟩ = some c ∧ w.cell? ⟨g, 3, none⟩ = some d ∧ w.cell? ⟨g, 4, none⟩ = some e) ∧
    (w.frozen? ⟨g, 0, none⟩ = false ∧ w.frozen? ⟨g, 1, none⟩ = false ∧ w.frozen? ⟨g, 2, none⟩ = false ∧ w.frozen? ⟨g, 3, none⟩ = false ∧ w.frozen? ⟨g, 4, none⟩ = false) :=
  ⟨⟨cell_of h 0 _ rfl, cell_of h 1 _ rfl, cell_of h 2 _ rfl, cell_of h 3 _ rfl, cell_of h 4 _ rfl⟩, frozen_of h 0, frozen_of h 1, frozen_of h 2, frozen_of h 3, frozen_of h 4⟩
theorem set_blk {w : World} {b : Nat} {cs : Array Value} {ty : TypeId} (h : w.heap[b]? = some (.cells cs ty)) (o : Nat) (v : Value) : (w.setCell ⟨b, o, none⟩ v).heap[b]? = some (.cells (cs.setIfInBounds o v) ty) := by
  simp [World.setCell, Array.getElem?_modify, h]
set_option maxHeartbeats 400000 in
/-- the disk's row -/
def diskRow (ib n : Nat) (off cut : Bool) (left writes : Int) : Array Value := #[.slice (some ⟨ib, 0, none⟩) n n, .bool off, .bool cut, .int .i64 left, .int .i64 writes]
def MayPost (c : Int) (w : World) (e : Ending) (w' : World) : Prop := e = .returned (.int .i64 c) ∧ w' = w
set_option maxHeartbeats 400000 in
theorem may_any (w : World) (d : Nat) (v0 v2 v3 v4 : Value) (off : Bool) (ty : TypeId) (h : w.heap[d]? = some (.cells #[v0, .bool off, v2, v3, v4] ty)) : Calls Try.prog 40 #[.pointer (some ⟨d, 0, none⟩)] w (MayPost (bif off then 603 else 0) w) := by
  obtain ⟨⟨p0, p1, p2, p3, p4⟩, z0, z1, z2, z3, z4⟩ := row5 h
  go_enter Try.func40, Try.ntmps40
  cases off
  · go_wp2
    go_ret
    exact ⟨rfl, rfl⟩
  · go_wp2
    go_ret
    exact ⟨rfl, rfl⟩
end Go.Proofs.Ytkcclaljhedmjaa

import Derived.Test.YtkcclaljhedmjaaA0
import Derived.Test.YtkcclaljhedmjaaJ0
namespace Go.Proofs.Ytkcclaljhedmjaa
open Go.RowKit Go.Maps
theorem wrap_wrap (a : Int) : wrap64 (wrap64 a) = wrap64 a := by unfold wrap64; omega
/-- bytes as cells -/
def cellsOf (xs : List Nat) : Array Value := (xs.map fun b : Nat => Value.int .u8 (b : Int)).toArray
/-- a device: n blocks -/
structure DiskAt (w : World) (d ib n : Nat) (f : Nat → List Nat) (off cut : Bool) (left writes : Int) : Prop where
  row : w.heap[d]? = some (.cells #[.slice (some ⟨ib, 0, none⟩) (256 * n) (256 * n), .bool off, .bool cut, .int .i64 left, .int .i64 writes] 66)
  img : w.heap[ib]? = some (.cells (cellsOf (flat f n)) 5)
  len : ∀ k, (f k).length = 256
  byt : ∀ k, ∀ b ∈ f k, b < 256
  wr : wrap64 writes = writes
def pd (d : Nat) : Value := .pointer (some ⟨d, 0, none⟩)
def IntPost (c : Int) (w : World) (e : Ending) (w' : World) : Prop := e = .returned (.int .i64 c) ∧ w' = w
def BoolPost (c : Bool) (w : World) (e : Ending) (w' : World) : Prop := e = .returned (.bool c) ∧ w' = w
set_option maxHeartbeats 400000 in
theorem alive_any (w : World) (d : Nat) (v0 v2 v3 v4 : Value) (off : Bool) (ty : TypeId) (h : w.heap[d]? = some (.cells #[v0, .bool off, v2, v3, v4] ty)) : Calls Try.prog 37 #[.pointer (some ⟨d, 0, none⟩)] w (BoolPost (!off) w) := by
  have hm := may_any w d v0 v2 v3 v4 off ty h
  go_enter Try.func37, Try.ntmps37
  cases off
  · go_wp2_with (go_at_call 40; refine Calls.mono hm ?_; rintro e w' ⟨rfl, rfl⟩)
    all_goals first
      | (go_ret; exact ⟨rfl, rfl⟩)
      | skip
  · go_wp2_with (go_at_call 40; refine Calls.mono hm ?_; rintro e w' ⟨rfl, rfl⟩)
    all_goals first
      | (go_ret; exact ⟨rfl, rfl⟩)
      | skip
set_option maxHeartbeats 400000 in
theorem writes_any (w : World) (d : Nat) (v0 v1 v2 v3 : Value) (n : Int) (ty : TypeId) (h : w.heap[d]? = some (.cells #[v0, v1, v2, v3, .int .i64 n] ty)) : Calls Try.prog 35 #[.pointer (some ⟨d, 0, none⟩)] w (IntPost n w) := by
  obtain ⟨⟨p0, p1, p2, p3, p4⟩, z0, z1, z2, z3, z4⟩ := row5 h
  go_enter Try.func35, Try.ntmps35
  go_wp2
  go_ret
  exact ⟨rfl, rfl⟩
set_option maxHeartbeats 400000 in
theorem blocks_any (w : World) (d : Nat) (a : Option Addr) (n c : Nat) (v1 v2 v3 v4 : Value) (hn : 256 * n ≤ maxLen) (ty : TypeId) (h : w.heap[d]? = some (.cells #[.slice a (256 * n) c, v1, v2, v3, v4] ty)) : Calls Try.prog 54 #[.pointer (some ⟨d, 0, none⟩)] w (IntPost n w) := by
  obtain ⟨⟨p0, p1, p2, p3, p4⟩, z0, z1, z2, z3, z4⟩ := row5 h
  go_enter Try.func54, Try.ntmps54
  go_wp2
  go_ret
  exact ⟨by simp; unfold wrap64; unfold maxLen at hn; omega, rfl⟩
def DiskSet (w : World) (d : Nat) (v : Value) (off cut : Bool) (left writes : Int) (e : Ending) (w' : World) : Prop := e = .returned (.int .i64 0) ∧ Kp (fun k => k = d) w w' ∧ w'.heap.size = w.heap.size ∧ w'.heap[d]? = some (.cells #[v, .bool off, .bool cut, .int .i64 left, .int .i64 writes] 66)
set_option maxHeartbeats 400000 in
theorem on_any (w : World) (d : Nat) (v : Value) (off cut : Bool) (left writes : Int) (h : w.heap[d]? = some (.cells #[v, .bool off, .bool cut, .int .i64 left, .int .i64 writes] 66)) : Calls Try.prog 17 #[.pointer (some ⟨d, 0, none⟩)] w (DiskSet w d v false false left writes) := by
  obtain ⟨⟨p0, p1, p2, p3, p4⟩, z0, z1, z2, z3, z4⟩ := row5 h
  go_enter Try.func17, Try.ntmps17
  go_wp2
  go_ret
  exact ⟨rfl, (kp_set1 _ _ _ _).trans (kp_set1 _ _ _ _), by simp [World.setCell], set_blk (set_blk h 1 _) 2 _⟩
set_option maxHeartbeats 400000 in
theorem cut_any (w : World) (d : Nat) (v : Value) (cut : Bool) (left writes : Int) (c : Int) (hc : 0 ≤ c) (h : w.heap[d]? = some (.cells #[v, .bool false, .bool cut, .int .i64 left, .int .i64 writes] 66)) : Calls Try.prog 16 #[.pointer (some ⟨d, 0, none⟩), .int .i64 c] w (DiskSet w d v (c == 0) true c writes) := by
  have hm := may_any w d v (.bool cut) (.int .i64 left) (.int .i64 writes) false 66 h
  obtain ⟨⟨p0, p1, p2, p3, p4⟩, z0, z1, z2, z3, z4⟩ := row5 h
  have hn : decide (c < 0) = false := by simpa using hc
  go_enter Try.func16, Try.ntmps16
  go_wp2_with (go_at_call 40; refine Calls.mono hm ?_; rintro e w' ⟨rfl, rfl⟩)
  go_ret
  exact ⟨rfl, ((kp_set1 _ _ _ _).trans (kp_set1 _ _ _ _)).trans (kp_set1 _ _ _ _), by simp [World.setCell], set_blk (set_blk (set_blk h 2 _) 3 _) 1 _⟩
/-- a block's bytes, as they lie in the device -/
def BlockPost (ib n : Nat) (off : Bool) (at_ : Int) (w : World) (e : Ending) (w' : World) : Prop := w' = w ∧
  e = .returned (bif off then .tuple #[.slice none 0 0, .int .i64 603] else bif decide (0 ≤ at_) && decide (at_ < n) then .tuple #[.slice (some ⟨ib, 256 * at_.toNat, none⟩) 256 (256 * n - 256 * at_.toNat), .int .i64 0] else .tuple #[.slice none 0 0, .int .i64 601])
set_option maxHeartbeats 1000000 in
theorem block_any (w : World) (d ib n : Nat) (off : Bool) (v2 v3 v4 : Value) (at_ : Int) (hn : 256 * n ≤ 1000000) (h : w.heap[d]? = some (.cells #[.slice (some ⟨ib, 0, none⟩) (256 * n) (256 * n), .bool off, v2, v3, v4] 66)) : Calls Try.prog 55 #[.pointer (some ⟨d, 0, none⟩), .int .i64 at_] w (BlockPost ib n off at_ w) := by
  have hm := may_any w d _ v2 v3 v4 off 66 h
  have hb := blocks_any w d (some ⟨ib, 0, none⟩) n (256 * n) (.bool off) v2 v3 v4 (by unfold maxLen; omega) 66 h
  obtain ⟨⟨p0, p1, p2, p3, p4⟩, z0, z1, z2, z3, z4⟩ := row5 h
  go_enter Try.func55, Try.ntmps55
  cases off
  · cases h0 : decide (at_ < 0)
    · have h0' : 0 ≤ at_ := by simpa using h0
      cases h1 : decide ((n : Int) ≤ at_)
      · have h1' : at_ < n := by simpa using h1
        obtain ⟨k, rfl⟩ : ∃ k : Nat, at_ = k := ⟨at_.toNat, by omega⟩
        have e1 : wrap64 ((k : Int) * 256) = ((256 * k : Nat) : Int) := by unfold wrap64; omega
        have e2 : wrap64 ((k : Int) + 1) = ((k + 1 : Nat) : Int) := by unfold wrap64; omega
        have e3 : wrap64 (((k + 1 : Nat) : Int) * 256) = ((256 * k + 256 : Nat) : Int) := by unfold wrap64; omega
        go_wp2_with first | (go_at_call 40; refine Calls.mono hm ?_; rintro e w' ⟨rfl, rfl⟩) | (go_at_call 54; refine Calls.mono hb ?_; rintro e w' ⟨rfl, rfl⟩)
        all_goals (try go_ret2)
        refine ⟨rfl, ?_⟩
        have a1 : decide ((0 : Int) ≤ (k : Int)) = true := by simp
        have a2 : decide ((k : Int) < (n : Int)) = true := by simpa using h1'
        have a3 : (k + 1) * 256 - k * 256 = 256 := by omega
        have a4 : k * 256 = 256 * k := Nat.mul_comm _ _
        rw [a3, a4, a1, a2]
        rfl
      · go_wp2_with first | (go_at_call 40; refine Calls.mono hm ?_; rintro e w' ⟨rfl, rfl⟩) | (go_at_call 54; refine Calls.mono hb ?_; rintro e w' ⟨rfl, rfl⟩)
        go_ret2
        exact ⟨rfl, by have h1' : (n : Int) ≤ at_ := by simpa using h1
                       have : decide (at_ < n) = false := by simpa using h1'
                       simp only [this, Bool.and_false, cond_false]; rfl⟩
    · go_wp2_with (go_at_call 40; refine Calls.mono hm ?_; rintro e w' ⟨rfl, rfl⟩)
      go_ret2
      exact ⟨rfl, by have h0' : at_ < 0 := by simpa using h0
                     have : decide (0 ≤ at_) = false := by simpa using h0'
                     simp only [this, Bool.false_and, cond_false]; rfl⟩
  · go_wp2_with (go_at_call 40; refine Calls.mono hm ?_; rintro e w' ⟨rfl, rfl⟩)
    go_ret2
    exact ⟨rfl, rfl⟩
end Go.Proofs.Ytkcclaljhedmjaa

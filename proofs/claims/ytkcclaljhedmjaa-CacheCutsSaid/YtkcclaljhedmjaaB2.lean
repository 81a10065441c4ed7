import Derived.Test.YtkcclaljhedmjaaB1
namespace Go.Proofs.Ytkcclaljhedmjaa
open Go.RowKit Go.Maps Go.Lib
section
variable {p : Pl} {w : World} {j d mb ib : Nat} {f : Nat → List Nat} {off cut over : Bool} {left writes : Int} {S : Int → Option ByteArray} {m : Nat} {at_ : Int}
/-- a text and an error, told by reads -/
def QText (s : ByteArray) (c : Int) (w : World) (e : Ending) (w' : World) : Prop := e = .returned (.tuple #[.string s, .int .i64 c]) ∧ ∃ k, w' = w.drewN k
set_option maxHeartbeats 1000000 in
theorem read_off (h : JW p w j d mb ib f off cut left writes over S m) (ho : (over || off) = true) : Calls Try.prog 14 #[.pointer (some ⟨j, 0, none⟩), .int .i64 at_] w (QText ByteArray.empty 603 w) := by
  have hmay := h.may
  rw [ho] at hmay
  go_enter Try.func14, Try.ntmps14
  go_wp2_with (go_at_call 33; refine Calls.mono hmay ?_; rintro e w' ⟨rfl, rfl⟩)
  go_ret2
  exact ⟨rfl, 0, rfl⟩
set_option maxHeartbeats 1000000 in
theorem read_no (h : JW p w j d mb ib f false cut left writes false S m) (hno : homeB p.n p.fr p.bl at_ = false) : Calls Try.prog 14 #[.pointer (some ⟨j, 0, none⟩), .int .i64 at_] w (QText ByteArray.empty 703 w) := by
  have hmay := h.may
  have hhome := h.home at_
  rw [hno] at hhome
  go_enter Try.func14, Try.ntmps14
  go_wp2_with (first | (go_at_call 33; refine Calls.mono hmay ?_; rintro e w' ⟨rfl, rfl⟩) | (go_at_call 34; refine Calls.mono hhome ?_; rintro e w' ⟨rfl, q, rfl⟩))
  go_ret2
  exact ⟨rfl, _, rfl⟩
/-- what is read -/
def readS (S : Int → Option ByteArray) (f : Nat → List Nat) (k : Int) : ByteArray := (S k).getD (strB (f k.toNat))
set_option maxHeartbeats 1000000 in
set_option maxRecDepth 100000 in
theorem read_ok (h : JW p w j d mb ib f false cut left writes false S m) (hyes : homeB p.n p.fr p.bl at_ = true) : Calls Try.prog 14 #[.pointer (some ⟨j, 0, none⟩), .int .i64 at_] w (QText (readS S f at_) 0 w) := by
  have hmay := h.may
  have hhome := h.home at_
  have hlk := fun q => (h.quiet q).map.look Try.underlying31 (Try.zeroValue9 _) (homeB_wf hyes) true
  have hrd := fun q => dread_any (w.drewN q) d ib p.n f false cut left writes at_ (by have := p.ok; omega) (h.quiet q).disk
  have hin : (decide (0 ≤ at_) && decide (at_ < (p.n : Int))) = true := by
    obtain ⟨n, rfl, h1, h2⟩ := homeB_iff.1 hyes
    simp; omega
  unfold ReadPost at hrd
  simp only [hin, cond_true, cond_false] at hrd
  rw [hyes] at hhome
  have hr := fun q => (row5 (h.quiet q).row)
  clear h
  cases hS : S at_ with
  | none =>
    rw [strM_none hS] at hlk
    have e : readS S f at_ = strB (f at_.toNat) := by simp [readS, hS]
    rw [e]
    go_enter Try.func14, Try.ntmps14
    go_wp2_with (first | (go_at_call 33; refine Calls.mono hmay ?_; rintro e w' ⟨rfl, rfl⟩) | (go_at_call 34; refine Calls.mono hhome ?_; rintro e w' ⟨rfl, q, rfl⟩; have hl2 := hlk q; have hd2 := hrd q; obtain ⟨⟨p0, p1, p2, p3, p4⟩, z0, z1, z2, z3, z4⟩ := hr q; clear hlk hrd hr) | (go_at_call 39; refine Calls.mono hd2 ?_; rintro e w' ⟨rfl, rfl⟩))
    go_ret2
    exact ⟨rfl, _, rfl⟩
  | some s0 =>
    rw [strM_some hS] at hlk
    have e : readS S f at_ = s0 := by simp [readS, hS]
    rw [e]
    go_enter Try.func14, Try.ntmps14
    go_wp2_with (first | (go_at_call 33; refine Calls.mono hmay ?_; rintro e w' ⟨rfl, rfl⟩) | (go_at_call 34; refine Calls.mono hhome ?_; rintro e w' ⟨rfl, q, rfl⟩; have hl2 := hlk q; obtain ⟨⟨p0, p1, p2, p3, p4⟩, z0, z1, z2, z3, z4⟩ := hr q; clear hlk hrd hr))
    go_ret2
    exact ⟨rfl, _, rfl⟩
set_option maxHeartbeats 1000000 in
theorem staged_any (h : JW p w j d mb ib f off cut left writes false S m) : Calls Try.prog 19 #[.pointer (some ⟨j, 0, none⟩)] w (IntPost m w) := by
  have hlen := fun ty => h.map.len Try.underlying31 ty
  obtain ⟨⟨p0, p1, p2, p3, p4⟩, z0, z1, z2, z3, z4⟩ := row5 h.row
  go_enter Try.func19, Try.ntmps19
  go_wp2
  go_ret
  exact ⟨rfl, rfl⟩
def DropPost (p : Pl) (j d mb ib : Nat) (f : Nat → List Nat) (cut : Bool) (left writes : Int) (w : World) (e : Ending) (w' : World) : Prop :=
  e = .returned (.int .i64 0) ∧ JW p w' j d mb ib f false cut left writes false (fun _ => none) 0 ∧ Kp (fun k => k = mb) w w' ∧ w'.heap.size = w.heap.size
theorem JW.set {w' : World} {S' : Int → Option ByteArray} {m' : Nat} (h : JW p w j d mb ib f off cut left writes over S m) (hM : MapAt w' mb (strM S') m') (hK : Kp (fun k => k = mb) w w') : JW p w' j d mb ib f off cut left writes over S' m' := by
  obtain ⟨n1, n2, n3, n4, n5, n6⟩ := h.ne
  exact ⟨⟨(hK.block d (blk_lt h.disk.row) n4).trans h.disk.row, (hK.block ib (blk_lt h.disk.img) n6.symm).trans h.disk.img, h.disk.len, h.disk.byt, h.disk.wr⟩, (hK.block j (blk_lt h.row) n2).trans h.row, hM⟩
set_option maxHeartbeats 1000000 in
theorem drop_ok (h : JW p w j d mb ib f false cut left writes false S m) : Calls Try.prog 13 #[.pointer (some ⟨j, 0, none⟩)] w (DropPost p j d mb ib f cut left writes w) := by
  have hmay := h.may
  have hcl := fun ty => h.map.clear Try.underlying31 ty
  obtain ⟨w2, hrun, hM, hK, hz⟩ := hcl 0
  obtain ⟨⟨p0, p1, p2, p3, p4⟩, z0, z1, z2, z3, z4⟩ := row5 h.row
  go_enter Try.func13, Try.ntmps13
  go_wp2_with (go_at_call 33; refine Calls.mono hmay ?_; rintro e w' ⟨rfl, rfl⟩)
  go_ret
  exact ⟨rfl, h.set hM hK, hK, hz⟩
end
end Go.Proofs.Ytkcclaljhedmjaa

import Derived.Test.YtkcclaljhedmjaaB0
namespace Go.Proofs.Ytkcclaljhedmjaa
open Go.RowKit Go.Maps Go.Lib
section
variable {p : Pl} {w : World} {j d mb ib : Nat} {f : Nat → List Nat} {off cut over : Bool} {left writes : Int} {S : Int → Option ByteArray} {m : Nat} {at_ : Int}
set_option maxHeartbeats 1000000 in
theorem put_off (h : JW p w j d mb ib f off cut left writes over S m) (ho : (over || off) = true) (s : ByteArray) : Calls Try.prog 10 #[.pointer (some ⟨j, 0, none⟩), .int .i64 at_, .string s] w (MayPost 603 w) := by
  have hmay := h.may
  rw [ho] at hmay
  go_enter Try.func10, Try.ntmps10
  go_wp2_with (go_at_call 33; refine Calls.mono hmay ?_; rintro e w' ⟨rfl, rfl⟩)
  go_ret
  exact ⟨rfl, rfl⟩
set_option maxHeartbeats 1000000 in
theorem put_full (h : JW p w j d mb ib f false cut left writes false S m) (hm : 40 ≤ m) (hyes : homeB p.n p.fr p.bl at_ = true) (hS : S at_ = none) (s : ByteArray) (hs : s.size = 256) : Calls Try.prog 10 #[.pointer (some ⟨j, 0, none⟩), .int .i64 at_, .string s] w (QInt 702 w) := by
  have hmay := h.may
  have hhome := h.home at_
  have hlk := h.map.look Try.underlying31 (Try.zeroValue9 w) (homeB_wf hyes) true
  rw [hyes] at hhome
  rw [strM_none hS] at hlk
  have hlen := fun q ty => (h.quiet q).map.len Try.underlying31 ty
  have g1 : ((s.size : Int) != 256) = false := by rw [hs]; rfl
  have g2 : decide ((40 : Int) ≤ (m : Int)) = true := by simp; omega
  obtain ⟨⟨p0, p1, p2, p3, p4⟩, z0, z1, z2, z3, z4⟩ := row5 h.row
  go_enter Try.func10, Try.ntmps10
  go_wp2_with (first | (go_at_call 33; refine Calls.mono hmay ?_; rintro e w' ⟨rfl, rfl⟩) | (go_at_call 34; refine Calls.mono hhome ?_; rintro e w' ⟨rfl, q, rfl⟩; have hlen2 := hlen q; clear hlen))
  go_ret
  exact ⟨rfl, _, rfl⟩
/-- staged -/
def PutPost (p : Pl) (j d mb ib : Nat) (f : Nat → List Nat) (cut : Bool) (left writes : Int) (S : Int → Option ByteArray) (m : Nat) (w : World) (e : Ending) (w' : World) : Prop :=
  e = .returned (.int .i64 0) ∧ JW p w' j d mb ib f false cut left writes false S m ∧ Kp (fun k => k = mb) w w' ∧ w'.heap.size = w.heap.size
set_option maxHeartbeats 1000000 in
set_option maxRecDepth 100000 in
theorem put_ok (h : JW p w j d mb ib f false cut left writes false S m) (hm : (S at_).isSome = true ∨ m < 40) (hm4 : m ≤ 40) (hyes : homeB p.n p.fr p.bl at_ = true) (s : ByteArray) (hs : s.size = 256) : Calls Try.prog 10 #[.pointer (some ⟨j, 0, none⟩), .int .i64 at_, .string s] w
    (PutPost p j d mb ib f cut left writes (putS S at_ s) (if (S at_).isSome then m else m + 1) w) := by
  have hmay := h.may
  have hhome := h.home at_
  have hne := h.ne
  have hlk := h.map.look Try.underlying31 (Try.zeroValue9 w) (homeB_wf hyes) true
  rw [hyes] at hhome
  have g1 : ((s.size : Int) != 256) = false := by rw [hs]; rfl
  have hst := fun q => (h.quiet q).map.store (by omega) Try.underlying31 (homeB_wf hyes) (.string s)
  have hJ := fun q => h.quiet q
  obtain ⟨⟨p0, p1, p2, p3, p4⟩, z0, z1, z2, z3, z4⟩ := row5 h.row
  have hend : ∀ q w2, MapAt w2 mb (putM (strM S) at_ (.string s)) (if (strM S at_).isSome then m else m + 1) → Kp (fun i => i = mb) (w.drewN q) w2 → w2.heap.size = (w.drewN q).heap.size → PutPost p j d mb ib f cut left writes (putS S at_ s) (if (S at_).isSome then m else m + 1) w (.returned (.int .i64 0)) w2 := by
    intro q w2 hM hK hz
    rw [strM_put] at hM
    have e : (strM S at_).isSome = (S at_).isSome := by unfold strM; simp
    rw [e] at hM
    refine ⟨rfl, ?_, ((kp_refl _ w).drewN q).trans hK, hz⟩
    obtain ⟨n1, n2, n3, n4, n5, n6⟩ := hne
    have h2 := h.quiet q
    exact ⟨⟨(hK.block d (blk_lt h2.disk.row) n4).trans h2.disk.row, (hK.block ib (blk_lt h2.disk.img) n6.symm).trans h2.disk.img, h2.disk.len, h2.disk.byt, h2.disk.wr⟩, (hK.block j (blk_lt h2.row) n2).trans h2.row, hM⟩
  clear h
  cases hS : S at_ with
  | none =>
    rw [strM_none hS] at hlk
    have hlt : m < 40 := by
      rcases hm with h | h
      · rw [hS] at h; cases h
      · exact h
    have g2 : decide ((40 : Int) ≤ (m : Int)) = false := by simp; omega
    have hlen := fun q ty => (hJ q).map.len Try.underlying31 ty
    clear hJ
    rw [hS] at hend
    clear hS
    go_enter Try.func10, Try.ntmps10
    go_wp2_with (first | (go_at_call 33; refine Calls.mono hmay ?_; rintro e w' ⟨rfl, rfl⟩) | (go_at_call 34; refine Calls.mono hhome ?_; rintro e w' ⟨rfl, q, rfl⟩; have hlen2 := hlen q; clear hlen; obtain ⟨w2, hrun, hM, hK, hz⟩ := hst q; clear hst))
    go_ret
    exact hend _ _ hM hK hz
  | some s0 =>
    rw [strM_some hS] at hlk
    rw [hS] at hend
    clear hS hJ
    go_enter Try.func10, Try.ntmps10
    go_wp2_with (first | (go_at_call 33; refine Calls.mono hmay ?_; rintro e w' ⟨rfl, rfl⟩) | (go_at_call 34; refine Calls.mono hhome ?_; rintro e w' ⟨rfl, q, rfl⟩; obtain ⟨w2, hrun, hM, hK, hz⟩ := hst q; clear hst))
    go_ret
    exact hend _ _ hM hK hz
end
end Go.Proofs.Ytkcclaljhedmjaa

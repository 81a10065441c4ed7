/- Commit. No conditions. -/
import Derived.Test.YtkcclaljhedmjaaB8
import Derived.WalkMore
namespace Go.Proofs.Ytkcclaljhedmjaa
open Go.RowKit Go.Maps
section
variable {p : Pl} {w : World} {j d mb ib : Nat} {f : Nat → List Nat} {off cut over : Bool} {writes : Int} {S : Int → Option ByteArray} {m : Nat} {ks : List Nat}
theorem JW.setOver {left : Int} (h : JW p w j d mb ib f off cut left writes over S m) (b : Bool) : JW p (w.setCell ⟨j, 4, none⟩ (.bool b)) j d mb ib f off cut left writes b S m := by
  obtain ⟨n1, n2, n3, n4, n5, n6⟩ := h.ne
  have hK := kp_set1 w j 4 (.bool b)
  exact ⟨⟨(hK.block d (blk_lt h.disk.row) n1.symm).trans h.disk.row, (hK.block ib (blk_lt h.disk.img) n3.symm).trans h.disk.img, h.disk.len, h.disk.byt, h.disk.wr⟩, set_blk h.row 4 _, h.map.kp hK n2.symm⟩
set_option maxHeartbeats 1000000 in
theorem commit_none {left : Int} (h : JW p w j d mb ib f false cut left writes false S 0) : Calls Try.prog 36 #[.pointer (some ⟨j, 0, none⟩)] w (MayPost 0 w) := by
  have hmay := h.may
  have hlen := fun ty => h.map.len Try.underlying31 ty
  obtain ⟨⟨p0, p1, p2, p3, p4⟩, z0, z1, z2, z3, z4⟩ := row5 h.row
  go_enter Try.func36, Try.ntmps36
  go_wp2
  go_step3
  go_wp2_with (go_at_call 33; refine Calls.mono hmay ?_; rintro e w' ⟨rfl, rfl⟩)
  rw [Exit.noGoto_ret]
  go_ret
  exact ⟨rfl, rfl⟩
set_option maxHeartbeats 1000000 in
theorem commit_off {left : Int} (h : JW p w j d mb ib f off cut left writes over S m) (ho : (over || off) = true) : Calls Try.prog 36 #[.pointer (some ⟨j, 0, none⟩)] w (MayPost 603 w) := by
  have hmay := h.may
  rw [ho] at hmay
  go_enter Try.func36, Try.ntmps36
  go_wp2
  go_step3
  go_wp2_with (go_at_call 33; refine Calls.mono hmay ?_; rintro e w' ⟨rfl, rfl⟩)
  rw [Exit.noGoto_ret]
  go_ret
  exact ⟨rfl, rfl⟩
def steps (j : Nat) : Array Value := #[.func (.func 61) #[.pointer (some ⟨j, 0, none⟩)] #[], .func (.func 43) #[.pointer (some ⟨j, 0, none⟩)] #[]]
/-- all at once, or the power is off -/
def CommitPost (p : Pl) (j d mb ib : Nat) (cut : Bool) (writes : Int) (S : Int → Option ByteArray) (m : Nat) (h0 : Nat → List Nat) (ks : List Nat) (w : World) (e : Ending) (w' : World) : Prop :=
  ∃ c f' off' writes' over' S' m', e = .returned (.int .i64 c) ∧ JX p w' j d mb ib f' off' cut writes' over' S' m' ∧ (off' = true → cut = true) ∧ Kp (fun i => i = d ∨ i = ib ∨ i = mb ∨ i = j) w w' ∧
    ((off' = false ∧ c = 0 ∧ over' = false ∧ S' = (fun _ => none) ∧ m' = 0 ∧ Rest p (headL []) f' (Ytkcclaljhedmjaa.over h0 (stgN S)) ∧ writes' = wrap64 (writes + (2 * m + 2 : Nat))) ∨
     (off' = true ∧ (c = 603 ∨ c = 0) ∧ Cutted p headL f' h0 (stgN S) ks))
def CommitRel (p : Pl) (j d mb ib : Nat) (cut : Bool) (writes : Int) (S : Int → Option ByteArray) (m : Nat) (h0 : Nat → List Nat) (ks : List Nat) (w : World) (k : Nat) (wr : World) : Prop :=
  wr.heap[w.heap.size]? = some (.cells (steps j) 42) ∧ ∃ f' off' writes' S' m', JX p wr j d mb ib f' off' cut writes' false S' m' ∧ (off' = true → cut = true) ∧ Kp (fun i => i = d ∨ i = ib ∨ i = mb) w wr ∧
    ((k = 0 ∧ off' = false ∧ S' = S ∧ m' = m ∧ Rest p (headL []) f' h0 ∧ writes' = writes) ∨
     (k = 1 ∧ S' = S ∧ m' = m ∧ Under p headL f' h0 (stgN S) ks 0 ∧ (off' = false → writes' = wrap64 (writes + (m + 1 : Nat)))) ∨
     (k = 2 ∧ S' = (fun _ => none) ∧ m' = 0 ∧ Rest p (headL []) f' (Ytkcclaljhedmjaa.over h0 (stgN S)) ∧ (off' = false → writes' = wrap64 (writes + (2 * m + 2 : Nat)))))
theorem wrap_two (a : Int) (m : Nat) : wrap64 (wrap64 (a + (m + 1 : Nat)) + (m + 1 : Nat)) = wrap64 (a + (2 * m + 2 : Nat)) := by rw [wrap_add]; congr 2; omega
set_option maxHeartbeats 2000000 in
set_option maxRecDepth 100000 in
theorem commit_any {h0 : Nat → List Nat} (h : JX p w j d mb ib f false cut writes false S m) (hm : 0 < m) (hS : Stg p S m) (hks : KsOf S m ks) (hr : Rest p (headL []) f h0) : Calls Try.prog 36 #[.pointer (some ⟨j, 0, none⟩)] w (CommitPost p j d mb ib cut writes S m h0 ks w) := by
  obtain ⟨left0, hJ⟩ := h
  have hmay := hJ.may
  have hlen := fun ty => hJ.map.len Try.underlying31 ty
  have g1 : ((m : Int) == 0) = false := by simp; omega
  have hjlt := blk_lt hJ.row
  have hdlt := blk_lt hJ.disk.row
  have hilt := blk_lt hJ.disk.img
  have hmlt := hJ.map.lt
  obtain ⟨⟨p0, p1, p2, p3, p4⟩, z0, z1, z2, z3, z4⟩ := row5 hJ.row
  have hrel0 : CommitRel p j d mb ib cut writes S m h0 ks w 0 (w.alloc (.cells (steps j) 42)) :=
    ⟨heap_alloc_new w _, f, false, writes, S, m, JX.same ⟨left0, hJ⟩ (kp_alloc _ w _), fun e => (by cases e), kp_alloc _ w _, .inl ⟨rfl, rfl, rfl, rfl, hr, rfl⟩⟩
  clear hr hJ
  go_enter Try.func36, Try.ntmps36
  go_wp2
  go_step3
  go_wp2_with (go_at_call 33; refine Calls.mono hmay ?_; rintro e w' ⟨rfl, rfl⟩)
  go_step3
  go_wp2
  go_loopw [23] (fun i wr => ∃ k : Nat, i = .int .i64 k ∧ k ≤ 2 ∧ CommitRel p j d mb ib cut writes S m h0 ks w' k wr) (fun i _ => 2 - (RowKit.intOf i).toNat)
  case atStart => exact ⟨0, rfl, by omega, hrel0⟩
  case round =>
    obtain ⟨k, rfl, hkn, hsb, f', off', writes', S', m', hJ2, hoc, hKp, hcase⟩ := hrel
    rcases hcase with ⟨rfl, rfl, rfl, rfl, hR, rfl⟩ | ⟨rfl, rfl, rfl, hU, hw1⟩ | ⟨rfl, rfl, rfl, hR, hw2⟩
    · have c0 : wr.cell? ⟨w'.heap.size, 0, none⟩ = some (.func (.func 61) #[.pointer (some ⟨j, 0, none⟩)] #[]) := cell_of hsb 0 _ rfl
      have hcall := group_any hJ2 hS hks hR
      go_wp2_with (go_at_call 61; refine Calls.mono hcall ?_; rintro e w3 ⟨c3, f3, off3, writes3, rfl, hJ5, hoc5, hK5, hway⟩; obtain ⟨left3, hJ6⟩ := hJ5; obtain ⟨⟨q0, q1, q2, q3, q4⟩, y0, y1, y2, y3, y4⟩ := row5 hJ6.row; rcases hway with ⟨rfl, hU3, hw3⟩ | ⟨rfl, hoo, hR3⟩)
      · exact ⟨⟨1, rfl, by omega, (hK5.block _ (blk_lt hsb) (fun e => by rcases e with e | e <;> omega)).trans hsb, f3, off3, writes3, _, _, ⟨left3, hJ6⟩, hoc5, hKp.trans (hK5.imp fun _ e => e.elim .inl fun e => .inr (.inl e)), .inr (.inl ⟨rfl, rfl, rfl, hU3, hw3⟩)⟩, by simp [RowKit.intOf]⟩
      · rw [Exit.noGoto_ret]
        go_ret
        exact ⟨603, f3, off3, writes3, true, _, _, rfl, ⟨left3, hJ6.setOver true⟩, hoc5, ((hKp.imp fun _ e => e.elim .inl fun e => .inr (e.elim .inl fun e => .inr (.inl e))).trans (hK5.imp fun _ e => e.elim .inl fun e => .inr (.inl e))).trans ((kp_set1 _ _ _ _).imp fun _ e => .inr (.inr (.inr e))), .inr ⟨hoo, .inl rfl, .inl hR3⟩⟩
    · have c0 : wr.cell? ⟨w'.heap.size, 1, none⟩ = some (.func (.func 43) #[.pointer (some ⟨j, 0, none⟩)] #[]) := cell_of hsb 1 _ rfl
      have hcall := bring_any hJ2 hoc hS hks hU
      go_wp2_with (go_at_call 43; refine Calls.mono hcall ?_; rintro e w3 ⟨c3, f3, off3, writes3, S3, m3, rfl, hJ5, hoc5, hK5, hway⟩; obtain ⟨left3, hJ6⟩ := hJ5; obtain ⟨⟨q0, q1, q2, q3, q4⟩, y0, y1, y2, y3, y4⟩ := row5 hJ6.row; rcases hway with ⟨rfl, hR3, rfl, rfl, hw3⟩ | ⟨rfl, hoo, hU3⟩)
      · exact ⟨⟨2, rfl, by omega, (hK5.block _ (blk_lt hsb) (fun e => by rcases e with e | e | e <;> omega)).trans hsb, f3, off3, writes3, _, _, ⟨left3, hJ6⟩, hoc5, hKp.trans hK5, .inr (.inr ⟨rfl, rfl, rfl, hR3, fun e => by
          rw [(hw3 e).2, hw1 (hw3 e).1, wrap_two]⟩)⟩, by simp [RowKit.intOf]⟩
      · rw [Exit.noGoto_ret]
        go_ret
        exact ⟨603, f3, off3, writes3, true, _, _, rfl, ⟨left3, hJ6.setOver true⟩, hoc5, ((hKp.trans hK5).imp fun _ e => e.elim .inl fun e => .inr (e.elim .inl fun e => .inr (.inl e))).trans ((kp_set1 _ _ _ _).imp fun _ e => .inr (.inr (.inr e))), .inr ⟨hoo, .inl rfl, .inr (.inl hU3)⟩⟩
    · obtain ⟨left, hJ3⟩ := hJ2
      obtain ⟨⟨q0, q1, q2, q3, q4⟩, y0, y1, y2, y3, y4⟩ := row5 hJ3.row
      have hal := alive_any wr d _ _ _ _ off' 66 hJ3.disk.row
      go_wp2_with (go_at_call 37; refine Calls.mono hal ?_; rintro e w3 ⟨rfl, rfl⟩)
      rw [Exit.noGoto_ret]
      go_ret
      refine ⟨0, f', off', writes', off', fun _ => none, 0, rfl, ?_, hoc, (hKp.imp fun _ e => e.elim .inl fun e => .inr (e.elim .inl fun e => .inr (.inl e))).trans ((kp_set1 _ _ _ _).imp fun _ e => .inr (.inr (.inr e))), ?_⟩
      · have := hJ3.setOver off'
        exact ⟨left, this⟩
      · cases off'
        · exact .inl ⟨rfl, rfl, rfl, rfl, rfl, hR, hw2 rfl⟩
        · exact .inr ⟨rfl, .inr rfl, .inr (.inr hR)⟩
end
end Go.Proofs.Ytkcclaljhedmjaa

/- JournalSteps: awake. No conditions. -/
import Derived.Test.YtkcclaljhedmjaaC7
namespace Go.Proofs.Ytkcclaljhedmjaa
open Go.RowKit Go.Maps
section
variable {w : World} {yb d ib j mb hb sb hm : Nat} {f : Nat → List Nat} {off cut c : Bool} {writes : Int} {S H : Int → Option ByteArray} {m : Nat} {ks : List Nat}
def CommitOn (p : Pl) (j d mb ib : Nat) (S : Int → Option ByteArray) (h0 : Nat → List Nat) (w : World) (e : Ending) (w' : World) : Prop :=
  ∃ f' writes', e = .returned (.int .i64 0) ∧ JX p w' j d mb ib f' false false writes' false (fun _ => none) 0 ∧ Kp (fun i => i = d ∨ i = ib ∨ i = mb ∨ i = j) w w' ∧ Rest p (headL []) f' (over h0 (stgN S))
theorem commit_on {p : Pl} {h0 : Nat → List Nat} (h : JX p w j d mb ib f false false writes false S m) (hS : Stg p S m) (hr : Rest p (headL []) f h0) : Calls Try.prog 36 #[.pointer (some ⟨j, 0, none⟩)] w (CommitOn p j d mb ib S h0 w) := by
  obtain ⟨l, hJ⟩ := h
  obtain ⟨ks, hks⟩ := ks_exists hJ.map hS
  refine (commit_all ⟨l, hJ⟩ hS hks hr).mono ?_
  rintro e w' ⟨c, f', off', writes', over', S', m', rfl, hJ', hoc, hK, hw⟩
  rcases hw with ⟨rfl, rfl, rfl, rfl, rfl, hR, _⟩ | ⟨ho, _⟩
  · exact ⟨f', writes', rfl, hJ', hK, hR⟩
  · have := hoc ho; cases this
def FmtBad (w : World) (e : Ending) (w' : World) : Prop := e = .returned (.tuple #[.pointer none, .int .i64 700]) ∧ w' = w
set_option maxHeartbeats 1000000 in
theorem fair_bad (left : Int) (h : DiskAt w d ib 100 f false cut left writes) : Calls Try.prog 29 #[.pointer (some ⟨d, 0, none⟩), .int .i64 90, .int .i64 60] w (MayPost 700 w) := by
  have hb := blocks_any w d (some ⟨ib, 0, none⟩) 100 (256 * 100) _ _ _ _ (by unfold maxLen; omega) 66 h.row
  go_enter Try.func29, Try.ntmps29
  go_wp2_with (go_at_call 54; refine Calls.mono hb ?_; rintro e w' ⟨rfl, rfl⟩)
  go_ret
  exact ⟨rfl, rfl⟩
set_option maxHeartbeats 1000000 in
theorem fmt_bad (left : Int) (h : DiskAt w d ib 100 f false cut left writes) : Calls Try.prog 7 #[.pointer (some ⟨d, 0, none⟩), .int .i64 90, .int .i64 60] w (FmtBad w) := by
  have hf := fair_bad left h
  go_enter Try.func7, Try.ntmps7
  go_wp2_with (go_at_call 29; refine Calls.mono hf ?_; rintro e w' ⟨rfl, rfl⟩)
  go_ret2
  exact ⟨rfl, rfl⟩
end
def pA : Pl := ⟨100, 10, 60, by omega⟩
theorem rest_new (p : Pl) : Rest p (headL []) (upd (fun _ => zeroL) p.fr (headL [])) (fun _ => zeroL) := by
  have hp := p.ok
  exact ⟨upd_same _ _ _, fun k hk => upd_other _ _ (hk.ne (Nat.le_refl _) (by omega))⟩
def one3 (bs : ByteArray) : Int → Option ByteArray := putS (fun _ => none) 3 bs
theorem stg_one (bs : ByteArray) (hbs : bs.size = 256) : Stg pA (one3 bs) 1 := by
  refine ⟨fun k s hk => ?_, by omega⟩
  unfold one3 putS at hk
  split at hk
  · rename_i e
    subst e
    cases hk
    exact ⟨⟨3, rfl, by unfold Home pA; decide⟩, hbs⟩
  · cases hk
set_option maxHeartbeats 2000000 in
set_option maxRecDepth 100000 in
theorem awake7_any (w : World) : Calls Try.prog 20 #[] w fun e w' => e = .returned (.bool true) ∧ Kp (fun _ => False) w w' := by
  obtain ⟨bs, hbs, hblk⟩ : ∃ bs, bs.size = 256 ∧ ∀ w', Calls Try.prog 11 #[.int .i64 1] w' (StrPost bs w') := ⟨_, by rw [strB_size, blkL_len], fun w' => blk7_any 1 w'⟩
  have hnew : Calls Try.prog 6 #[.int .i64 100] w (NewPost pA w) := new_any pA w
  have hh3 : homeB pA.n pA.fr pA.bl 3 = true := by decide
  have hh20 : homeB pA.n pA.fr pA.bl 20 = false := by decide
  have w20 : (Lit.int .i64 20).wf = true := by decide
  have hstg := stg_one bs hbs
  have h3 : strB (over (fun _ => zeroL) (stgN (one3 bs)) 3) = bs := by
    simp [over, stgN, one3, putS, strB_bytesOf]
  replace h3 := Lib.hid h3
  replace hh3 := Lib.hid hh3
  replace hh20 := Lib.hid hh20
  replace w20 := Lib.hid w20
  go_enter Try.func20, Try.ntmps20
  go_wp2_with (first
    | (go_at_call 6; refine Calls.mono hnew ?_; rintro e w1 ⟨d, ib, hd, hi, rfl, hD1, hK1⟩; have hfmt := fmt_any hD1; clear hnew)
    | (go_at_call 7; refine Calls.mono hfmt ?_; clear hfmt; rintro e w2 ⟨j, mb, off2, hj, hmb, rfl, hJ2, hoc2, hK2⟩; obtain rfl : off2 = false := (by cases off2; rfl; exact absurd (hoc2 rfl) (by decide)); have hb1 := hblk w2; have hs1 := hK1.size; have hKa := Kp.new hK1 hK2 (fun k e => .inr (by omega)))
    | (go_at_call 11; refine Calls.mono hb1 ?_; clear hb1; rintro e w3 ⟨rfl, hK3⟩; replace hKa := hKa.trans hK3; replace hJ2 := hJ2.same hK3; obtain ⟨l2, hJ3⟩ := hJ2; have hput := put_ok hJ3 (.inr (by omega)) (by omega) hh3.out bs hbs)
    | (go_at_call 10; refine Calls.mono hput ?_; clear hput; rintro e w4 ⟨rfl, hJ4, hK4, hz4⟩; replace hKa := Kp.new hKa hK4 (fun k e => .inr (by omega)); have hb2 := hblk w4)
    | (go_at_call 11; refine Calls.mono hb2 ?_; clear hb2; rintro e w5 ⟨rfl, hK5⟩; replace hKa := hKa.trans hK5; have hJ5 := hJ4.kp hK5 (fun e => e) (fun e => e) (fun e => e) (fun e => e); have hput2 := put_no hJ5 w20.out hh20.out bs)
    | (go_at_call 10; refine Calls.mono hput2 ?_; clear hput2; rintro e w6 ⟨rfl, q6, rfl⟩; have hJ6 := hJ5.quiet q6; have hcom := commit_on (S := one3 bs) (m := 1) (h0 := fun _ => zeroL) ⟨_, hJ6⟩ hstg (rest_new pA); replace hKa := hKa.drewN q6)
    | (go_at_call 36; refine Calls.mono hcom ?_; clear hcom; rintro e w7 ⟨f7, writes7, rfl, ⟨l7, hJ7⟩, hK7, hR7⟩; replace hKa := Kp.new hKa hK7 (fun k e => .inr (by omega)); have hrd := dread_any w7 d ib 100 f7 false false l7 writes7 3 (by omega) hJ7.disk; have h37 := (hR7.2 3 (by unfold Home pA; decide)); unfold ReadPost at hrd; rw [show f7 (3 : Int).toNat = _ from h37, h3.out] at hrd)
    | (go_at_call 39; refine Calls.mono hrd ?_; clear hrd; rintro e w8 ⟨rfl, rfl⟩; have hfb := fmt_bad l7 hJ7.disk)
    | (go_at_call 7; refine Calls.mono hfb ?_; clear hfb; rintro e w9 ⟨rfl, rfl⟩; have hb3 := hblk w9)
    | (go_at_call 8; refine Calls.mono (num_any _ _) ?_; rintro e w10 ⟨rfl, rfl⟩)
    | (go_at_call 11; refine Calls.mono (hblk _) ?_; rintro e w11 ⟨rfl, hK11⟩))
  go_ret
  exact ⟨rfl, hKa.trans hK11⟩
end Go.Proofs.Ytkcclaljhedmjaa

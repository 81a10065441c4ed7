/- bring: the staged blocks home. No conditions. -/
import Derived.Test.YtkcclaljhedmjaaB7
namespace Go.Proofs.Ytkcclaljhedmjaa
open Go.RowKit Go.Maps
section
variable {p : Pl} {w : World} {j d mb ib : Nat} {f : Nat → List Nat} {off cut over : Bool} {writes : Int} {S : Int → Option ByteArray} {m : Nat} {ks : List Nat}
def BringRel (p : Pl) (j d mb ib : Nat) (off cut : Bool) (writes : Int) (S : Int → Option ByteArray) (m : Nat) (h0 : Nat → List Nat) (ks : List Nat) (v : Value) (w : World) (k : Nat) (wr : World) : Prop :=
  ∃ f' off' writes', JX p wr j d mb ib f' off' cut writes' false S m ∧ IntsAt wr v ks ∧ Under p headL f' h0 (stgN S) ks k ∧ (off' = true → cut = true) ∧ (off' = false → off = false ∧ writes' = wrap64 (writes + k)) ∧ Kp (fun i => i = d ∨ i = ib) w wr
/-- the group is home, or the power is off -/
def BringPost (p : Pl) (j d mb ib : Nat) (off cut : Bool) (writes : Int) (S : Int → Option ByteArray) (m : Nat) (h0 : Nat → List Nat) (ks : List Nat) (w : World) (e : Ending) (w' : World) : Prop :=
  ∃ c f' off' writes' S' m', e = .returned (.int .i64 c) ∧ JX p w' j d mb ib f' off' cut writes' false S' m' ∧ (off' = true → cut = true) ∧ Kp (fun i => i = d ∨ i = ib ∨ i = mb) w w' ∧
    ((c = 0 ∧ Rest p (headL []) f' (Ytkcclaljhedmjaa.over h0 (stgN S)) ∧ S' = (fun _ => none) ∧ m' = 0 ∧ (off' = false → off = false ∧ writes' = wrap64 (writes + (m + 1 : Nat)))) ∨ (c = 603 ∧ off' = true ∧ Under p headL f' h0 (stgN S) ks 0))
set_option maxHeartbeats 2000000 in
set_option maxRecDepth 100000 in
theorem bring_any {h0 : Nat → List Nat} (h : JX p w j d mb ib f off cut writes false S m) (hoc0 : off = true → cut = true) (hS : Stg p S m) (hks : KsOf S m ks) (hr : Under p headL f h0 (stgN S) ks 0) : Calls Try.prog 43 #[.pointer (some ⟨j, 0, none⟩)] w (BringPost p j d mb ib off cut writes S m h0 ks w) := by
  have hp := p.ok
  have hg := hks.grp hS
  have hfew := hS.few
  have hlen := hks.len
  obtain ⟨left0, hJ⟩ := h
  have hw0 := fun (_ : off = false) => hJ.disk.wr
  obtain ⟨n1, n2, n3, n4, n5, n6⟩ := hJ.ne
  have hjlt := blk_lt hJ.row
  have hkeys := keys64 mb w
  have hM1 : MapAt (w.alloc (.cells #[.map (some mb)] 31)) mb (strM S) m := hJ.map.kp (kp_alloc (fun _ => False) w _) (fun e => e)
  have hsort := sorted72 (w := w.alloc (.cells #[.map (some mb)] 31)) (Bm := w.heap.size) (by simp) (cell_of (heap_alloc_new w _) 0 _ rfl) hM1 (fun k v hv => by
    unfold strM at hv
    obtain ⟨s, hs, _⟩ := Option.map_eq_some_iff.1 hv
    obtain ⟨⟨n, rfl, _⟩, _⟩ := hS.home k s hs
    omega)
  have hone : ∀ ks2 : List Nat, ks2.Pairwise (· < ·) → (∀ k : Nat, k ∈ ks2 ↔ (strM S (k : Int)).isSome = true) → ks2 = ks := fun ks2 h1 h2 => sorted_one h1 hks.sorted fun k => by
    rw [h2, hks.mem, strM, Option.isSome_map]
  obtain ⟨⟨p0, p1, p2, p3, p4⟩, z0, z1, z2, z3, z4⟩ := row5 hJ.row
  go_enter Try.func43, Try.ntmps43
  go_wp2_with (first | (go_at_call 64; refine Calls.mono hkeys ?_; rintro e w1 ⟨rfl, rfl⟩) | (go_at_call 63; refine Calls.mono hsort ?_; rintro e w2 ⟨v, ks2, rfl, hsd, hmem, _, hI, hK2⟩; obtain rfl := hone ks2 hsd hmem; obtain ⟨ao, c, rfl⟩ := hI.slice))
  have hK2' := (kp_alloc (fun _ => False) w (.cells #[.map (some mb)] 31)).trans hK2
  have hrel0 : BringRel p j d mb ib off cut writes S m h0 ks2 (.slice ao ks2.length c) w 0 w2 :=
    ⟨f, off, writes, (JX.same ⟨left0, hJ⟩ hK2'), hI, hr, hoc0, fun e => ⟨e, by simpa using (hw0 e).symm⟩, hK2'.imp fun _ e => e.elim⟩
  clear hsort hkeys hM1 hone
  go_loopw [13] (fun i wr => ∃ k : Nat, i = .int .i64 k ∧ k ≤ ks2.length ∧ BringRel p j d mb ib off cut writes S m h0 ks2 (.slice ao ks2.length c) w k wr) (fun i _ => ks2.length - (RowKit.intOf i).toNat)
  case atStart => exact ⟨0, rfl, by omega, hrel0⟩
  case round =>
    obtain ⟨k, rfl, hkn, f', off', writes', hJ2, hI2, hU, hoc, hwr, hKp⟩ := hrel
    by_cases hlt : k < ks2.length
    · have g3 : decide ((k : Int) < (ks2.length : Int)) = true := by simp; omega
      obtain ⟨x, hxk⟩ : ∃ x, ks2[k]? = some x := ⟨_, List.getElem?_eq_getElem hlt⟩
      have hxh := hg.home x (List.mem_of_getElem? hxk)
      obtain ⟨s, hs⟩ := Option.isSome_iff_exists.1 ((hks.mem x).1 (List.mem_of_getElem? hxk))
      have hs6 := (hS.home _ _ hs).2
      obtain ⟨left, hJ3⟩ := hJ2
      have hJ4 : JX p wr.drew j d mb ib f' off' cut writes' false S m := JX.same ⟨left, hJ3⟩ ((kp_refl _ wr).drew)
      obtain ⟨g, rfl⟩ : ∃ g, ao = some ⟨g, 0, none⟩ := by
        rcases hI2 with ⟨e, e2⟩ | ⟨g, c, cur, e, _, hg, hc⟩
        · rw [e2] at hlt; simp at hlt
        · cases e; exact ⟨_, rfl⟩
      have hc := ints_cell hI2 hxk
      have hcall := hJ4.write x hxh.1 s hs6
      have hlk : (Instr.lookup 31 (.map (some mb)) (.int .i64 (x : Int)) false).run Try.prog wr.drew = .ok (.string s) wr.drew := by
        have := (hJ3.map.kp ((kp_refl (fun _ => False) wr).drew) (fun e => e)).look Try.underlying31 (Try.zeroValue9 _) (hJ3.map.wf (strM_some hs)) false
        rw [strM_some hs] at this
        exact this
      obtain ⟨⟨q0, q1, q2, q3, q4⟩, y0, y1, y2, y3, y4⟩ := row5 hJ3.row
      clear hJ
      go_wp2
      go_still_tail 11, (by kernel_rfl)
      change wpList _ _ _ _ _ wr.drew
      go_wp2_with (go_at_call 30; refine Calls.mono hcall ?_; rintro e w3 ⟨c3, f3, off3, writes3, rfl, hJ5, hK5, hz5, ho5, hway⟩)
      all_goals
        have hKr : Kp (fun i => i = d ∨ i = ib) w w3 := hKp.trans (((kp_refl _ wr).drew).trans hK5)
        have hIr := hJ4.ints (hI2.kp (w' := wr.drew) fun _ _ _ _ => rfl) hK5
        rcases hway with ⟨rfl, ho, rfl, hoo⟩ | ⟨rfl, ho, rfl, hw3⟩
      all_goals first
        | (exfalso; simp at *; done)
        | skip
      · go_ret
        exact ⟨603, _, off3, writes3, S, m, rfl, hJ5, fun _ => hoc ho, hKr.imp fun _ e => e.elim .inl fun e => .inr (.inl e), .inr ⟨rfl, hoo, hU.again⟩⟩
      · have hgd : ks2.getD k 0 = x := by rw [List.getD_eq_getElem?_getD, hxk]; rfl
        have hU3 := hU.next hg hlt (bytesOf s) (by rw [hgd, stgN, hs]; rfl)
        rw [hgd] at hU3
        exact ⟨⟨k + 1, by simp, by omega, _, off3, writes3, hJ5, hIr, hU3, fun h => (ho5 h).elim id (fun e => by rw [ho] at e; cases e), fun _ => ⟨(hwr ho).1, by rw [hw3, (hwr ho).2, wrap_one]⟩, hKr⟩, by simp [RowKit.intOf]; omega⟩
    · have g3 : decide ((k : Int) < (ks2.length : Int)) = false := by simp; omega
      obtain rfl : k = ks2.length := by omega
      obtain ⟨left, hJ3⟩ := hJ2
      obtain ⟨wc, hrunc, hMc, hKc, hzc⟩ := hJ3.map.clear Try.underlying31 0
      have hJc : JX p wc.drew j d mb ib f' off' cut writes' false (fun _ => none) 0 := JX.same ⟨left, hJ3.set hMc hKc⟩ ((kp_refl _ wc).drew)
      have hhead := head_any wc.drew (.slice none 0 0) [] (by simp) (by simp) (.inl ⟨rfl, rfl⟩)
      obtain ⟨⟨q0, q1, q2, q3, q4⟩, y0, y1, y2, y3, y4⟩ := row5 hJ3.row
      have hrc := (hJ3.set (S' := fun _ => none) (m' := 0) hMc hKc).row
      obtain ⟨⟨s0, s1, s2, s3, s4⟩, t0, t1, t2, t3, t4⟩ := row5 hrc
      have hcall := fun w' (hK : Kp (fun _ => False) wc.drew w') => (hJc.same hK).write p.fr (by omega) (strB (headL [])) (by rw [strB_size, headL_length _ (by simp)])
      have hrow := fun w' (hK : Kp (fun _ => False) wc.drew w') => row5 (show w'.heap[j]? = _ from (hK.block j (blk_lt hrc) (fun e => e)).trans hrc)
      have hfin : ∀ w3 w4 c3 f3 off3 writes3, Kp (fun _ => False) wc.drew w3 → JX p w4 j d mb ib f3 off3 cut writes3 false (fun _ => none) 0 → Kp (fun i => i = d ∨ i = ib) w3 w4 → (off3 = true → cut = true ∨ off' = true) →
          ((c3 = 603 ∧ off' = true ∧ f3 = f' ∧ off3 = true) ∨ (c3 = 0 ∧ off' = false ∧ f3 = upd f' p.fr (bytesOf (strB (headL []))) ∧ writes3 = wrap64 (writes' + 1))) → BringPost p j d mb ib off cut writes S m h0 ks2 w (.returned (.int .i64 c3)) w4 := by
        intro w3 w4 c3 f3 off3 writes3 hK3 hJ5 hK5 ho5 hway
        have hKr : Kp (fun i => i = d ∨ i = ib ∨ i = mb) w w4 := (((hKp.imp fun _ e => e.elim .inl fun e => .inr (.inl e)).trans (hKc.imp fun _ e => .inr (.inr e))).trans (((kp_refl _ wc).drew).trans (hK3.imp fun _ e => e.elim))).trans (hK5.imp fun _ e => e.elim .inl fun e => .inr (.inl e))
        refine ⟨c3, f3, off3, writes3, _, _, rfl, hJ5, fun e => (ho5 e).elim id hoc, hKr, ?_⟩
        rcases hway with ⟨rfl, ho, rfl, hoo⟩ | ⟨rfl, ho, rfl, hw3⟩
        · exact .inr ⟨rfl, hoo, hU.again⟩
        · refine .inl ⟨rfl, ?_, rfl, rfl, fun _ => ⟨(hwr ho).1, by rw [hw3, (hwr ho).2, wrap_one, hlen]⟩⟩
          rw [bytesOf_strB _ (headL_byte [])]
          exact hU.rest hg _
      go_wp2
      go_region_law (first
        | (refine step_call rfl 31 #[.slice none 0 0] (by go_simp) _ hhead ?_; rintro e w3 ⟨rfl, hK3⟩; refine ⟨_, rfl, ?_⟩; have hcall3 := hcall w3 hK3; obtain ⟨⟨r0, r1, r2, r3, r4⟩, x0, x1, x2, x3, x4⟩ := hrow w3 hK3; clear hcall hhead hrow)
        | (refine step_call rfl 30 #[.pointer (some ⟨d, 0, none⟩), .int .i64 (p.fr : Int), .string (strB (headL []))] (by go_simp) _ hcall3 ?_; rintro e w4 ⟨c3, f3, off3, writes3, rfl, hJ5, hK5, hz5, ho5, hway⟩; refine ⟨_, rfl, ?_⟩; have hend := hfin _ _ _ _ _ _ hK3 hJ5 hK5 ho5 hway; clear hfin hway ho5))
      all_goals
        go_wp2
        go_ret
        exact hend
end
end Go.Proofs.Ytkcclaljhedmjaa

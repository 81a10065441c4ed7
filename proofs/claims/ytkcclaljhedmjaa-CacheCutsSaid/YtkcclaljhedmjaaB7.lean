import Derived.Test.YtkcclaljhedmjaaB6
import Derived.StillTailTactics
import Derived.IntWalk
namespace Go.Proofs.Ytkcclaljhedmjaa
open Go.RowKit Go.Maps
section
variable {p : Pl} {w : World} {j d mb ib : Nat} {f : Nat → List Nat} {off cut over : Bool} {writes : Int} {S : Int → Option ByteArray} {m : Nat} {ks : List Nat}
theorem IntsAt.slice {v : Value} (h : IntsAt w v ks) : ∃ ao c, v = .slice ao ks.length c := by
  rcases h with ⟨rfl, rfl⟩ | ⟨g, c, cur, rfl, h0, hg, hc⟩
  · exact ⟨none, 0, rfl⟩
  · exact ⟨_, _, rfl⟩
/-- the row of numbers is none of the disk's blocks -/
theorem JX.ints (h : JX p w j d mb ib f off cut writes over S m) {v : Value} (hI : IntsAt w v ks) {w' : World} (hK : Kp (fun i => i = d ∨ i = ib) w w') : IntsAt w' v ks := by
  obtain ⟨left, h⟩ := h
  refine hI.kp fun b cur _ hb => hK.block b (blk_lt hb) fun e => ?_
  rcases e with rfl | rfl
  · have := h.disk.row; rw [hb] at this; cases this
  · have := h.disk.img; rw [hb] at this; cases this
def GroupRel (p : Pl) (j d mb ib : Nat) (cut : Bool) (writes : Int) (S : Int → Option ByteArray) (m : Nat) (h0 : Nat → List Nat) (ks : List Nat) (v : Value) (w : World) (k : Nat) (wr : World) : Prop :=
  ∃ f' off' writes', JX p wr j d mb ib f' off' cut writes' false S m ∧ IntsAt wr v ks ∧ Rest p (headL []) f' h0 ∧ Logged p f' (stgN S) ks k ∧ (off' = true → cut = true) ∧ (off' = false → writes' = wrap64 (writes + k)) ∧ Kp (fun i => i = d ∨ i = ib) w wr
/-- the group is under way, or the power is off -/
def GroupPost (p : Pl) (j d mb ib : Nat) (cut : Bool) (writes : Int) (S : Int → Option ByteArray) (m : Nat) (h0 : Nat → List Nat) (ks : List Nat) (w : World) (e : Ending) (w' : World) : Prop :=
  ∃ c f' off' writes', e = .returned (.int .i64 c) ∧ JX p w' j d mb ib f' off' cut writes' false S m ∧ (off' = true → cut = true) ∧ Kp (fun i => i = d ∨ i = ib) w w' ∧
    ((c = 0 ∧ Under p headL f' h0 (stgN S) ks 0 ∧ (off' = false → writes' = wrap64 (writes + (m + 1 : Nat)))) ∨ (c = 603 ∧ off' = true ∧ Rest p (headL []) f' h0))
theorem les_byte : ∀ (ks : List Nat), ∀ b ∈ les ks, b < 256
  | [], b, h => by simp [les] at h
  | k :: r, b, h => by
    rw [les, List.mem_append] at h
    rcases h with h | h
    · simp [le4] at h; omega
    · exact les_byte r b h
theorem headL_byte (ks : List Nat) : ∀ b ∈ headL ks, b < 256 := by
  intro b hb
  rw [headL, List.mem_append, List.mem_append] at hb
  rcases hb with (h | h) | h
  · simp at h; omega
  · exact les_byte _ b h
  · have := List.eq_of_mem_replicate h; omega
theorem wrap_add (a : Int) (k l : Nat) : wrap64 (wrap64 (a + k) + l) = wrap64 (a + (k + l : Nat)) := by unfold wrap64; omega
theorem wrap_one (a : Int) (k : Nat) : wrap64 (wrap64 (a + k) + 1) = wrap64 (a + (k + 1 : Nat)) := by unfold wrap64; omega
set_option maxHeartbeats 2000000 in
set_option maxRecDepth 100000 in
theorem group_any {h0 : Nat → List Nat} (h : JX p w j d mb ib f false cut writes false S m) (hS : Stg p S m) (hks : KsOf S m ks) (hr : Rest p (headL []) f h0) : Calls Try.prog 61 #[.pointer (some ⟨j, 0, none⟩)] w (GroupPost p j d mb ib cut writes S m h0 ks w) := by
  have hp := p.ok
  have hg := hks.grp hS
  have hfew := hS.few
  have hlen := hks.len
  obtain ⟨left0, hJ⟩ := h
  have hw0 := hJ.disk.wr
  obtain ⟨n1, n2, n3, n4, n5, n6⟩ := hJ.ne
  have hjlt := blk_lt hJ.row
  have hkeys := keys64 mb w
  have hM1 : MapAt (w.alloc (.cells #[.map (some mb)] 31)) mb (strM S) m := hJ.map.kp (kp_alloc (fun _ => False) w _) (fun e => e)
  have hsort := sorted72 (w := w.alloc (.cells #[.map (some mb)] 31)) (Bm := w.heap.size) (by simp) (cell_of (heap_alloc_new w _) 0 _ rfl) hM1 (fun k v hv => by
    unfold strM at hv
    obtain ⟨s, hs, _⟩ := Option.map_eq_some_iff.1 hv
    obtain ⟨⟨n, rfl, _⟩, _⟩ := hS.home k s hs
    omega)
  have hone : ∀ ks2 : List Nat, ks2.Pairwise (· < ·) → (∀ k : Nat, k ∈ ks2 ↔ (strM S (k : Int)).isSome = true) → ks2 = ks := fun ks2 h1 h2 => sorted_one h1 hks.sorted fun k => by
    rw [h2, hks.mem, strM, Option.isSome_map]
  obtain ⟨⟨p0, p1, p2, p3, p4⟩, z0, z1, z2, z3, z4⟩ := row5 hJ.row
  go_enter Try.func61, Try.ntmps61
  go_wp2_with (first | (go_at_call 64; refine Calls.mono hkeys ?_; rintro e w1 ⟨rfl, rfl⟩) | (go_at_call 63; refine Calls.mono hsort ?_; rintro e w2 ⟨v, ks2, rfl, hsd, hmem, _, hI, hK2⟩; obtain rfl := hone ks2 hsd hmem; obtain ⟨ao, c, rfl⟩ := hI.slice))
  have hK2' := (kp_alloc (fun _ => False) w (.cells #[.map (some mb)] 31)).trans hK2
  have hrel0 : GroupRel p j d mb ib cut writes S m h0 ks2 (.slice ao ks2.length c) w 0 w2 :=
    ⟨f, false, writes, (JX.same ⟨left0, hJ⟩ hK2'), hI, hr, fun i hi => by omega, fun e => (by cases e), fun _ => by simpa using hw0.symm, hK2'.imp fun _ e => e.elim⟩
  clear hsort hkeys hM1 hone
  go_loopw [15] (fun i wr => ∃ k : Nat, i = .int .i64 k ∧ k ≤ ks2.length ∧ GroupRel p j d mb ib cut writes S m h0 ks2 (.slice ao ks2.length c) w k wr) (fun i _ => ks2.length - (RowKit.intOf i).toNat)
  case atStart => exact ⟨0, rfl, by omega, hrel0⟩
  case round =>
    obtain ⟨k, rfl, hkn, f', off', writes', hJ2, hI2, hR, hL, hoc, hwr, hKp⟩ := hrel
    by_cases hlt : k < ks2.length
    · have g3 : decide ((k : Int) < (ks2.length : Int)) = true := by simp; omega
      obtain ⟨x, hxk⟩ : ∃ x, ks2[k]? = some x := ⟨_, List.getElem?_eq_getElem hlt⟩
      obtain ⟨s, hs⟩ := Option.isSome_iff_exists.1 ((hks.mem x).1 (List.mem_of_getElem? hxk))
      have hs6 := (hS.home _ _ hs).2
      obtain ⟨left, hJ3⟩ := hJ2
      have hJ4 : JX p wr.drew j d mb ib f' off' cut writes' false S m := JX.same ⟨left, hJ3⟩ ((kp_refl _ wr).drew)
      have hcell : ∀ g, ao = some ⟨g, 0, none⟩ → wr.cell? ⟨g, k, none⟩ = some (.int .i64 (x : Int)) := fun g e => by
        subst e
        exact ints_cell hI2 hxk
      obtain ⟨g, rfl⟩ : ∃ g, ao = some ⟨g, 0, none⟩ := by
        rcases hI2 with ⟨e, e2⟩ | ⟨g, c, cur, e, _, hg, hc⟩
        · rw [e2] at hlt; simp at hlt
        · cases e; exact ⟨_, rfl⟩
      have hc := hcell g rfl
      have hcall := hJ4.write (p.fr + 1 + k) (by omega) s hs6
      have hlk : (Instr.lookup 31 (.map (some mb)) (.int .i64 (x : Int)) false).run Try.prog wr.drew = .ok (.string s) wr.drew := by
        have := (hJ3.map.kp ((kp_refl (fun _ => False) wr).drew) (fun e => e)).look Try.underlying31 (Try.zeroValue9 _) (hJ3.map.wf (strM_some hs)) false
        rw [strM_some hs] at this
        exact this
      have e1 : IntKind.i64.wrap ((p.fr : Int) + 1) = (p.fr : Int) + 1 := IntWalk.i64_in _ (by omega)
      have e2 : IntKind.i64.wrap ((p.fr : Int) + 1 + (k : Int)) = (p.fr : Int) + 1 + (k : Int) := IntWalk.i64_in _ (by omega)
      have e3 : ((p.fr + 1 + k : Nat) : Int) = (p.fr : Int) + 1 + (k : Int) := by omega
      rw [e3] at hcall
      obtain ⟨⟨q0, q1, q2, q3, q4⟩, y0, y1, y2, y3, y4⟩ := row5 hJ3.row
      clear hcell hJ
      go_wp2
      go_still_tail 17, (by kernel_rfl)
      change wpList _ _ _ _ _ wr.drew
      go_wp2_with (go_at_call 30; refine Calls.mono hcall ?_; rintro e w3 ⟨c3, f3, off3, writes3, rfl, hJ5, hK5, hz5, ho5, hway⟩)
      all_goals
        have hKr : Kp (fun i => i = d ∨ i = ib) w w3 := hKp.trans (((kp_refl _ wr).drew).trans hK5)
        have hIr := hJ4.ints (hI2.kp (w' := wr.drew) fun _ _ _ _ => rfl) hK5
        rcases hway with ⟨rfl, ho, rfl, hoo⟩ | ⟨rfl, ho, rfl, hw3⟩
      all_goals first
        | (exfalso; simp at *; done)
        | skip
      · go_ret
        exact ⟨603, _, off3, writes3, rfl, hJ5, fun _ => hoc ho, hKr, .inr ⟨rfl, hoo, hR⟩⟩
      · have hgd : ks2.getD k 0 = x := by rw [List.getD_eq_getElem?_getD, hxk]; rfl
        obtain ⟨hR3, hL3⟩ := hR.log hg hL hlt (bytesOf s) (by rw [hgd, stgN, hs]; rfl)
        exact ⟨⟨k + 1, by simp, by omega, _, off3, writes3, hJ5, hIr, hR3, hL3, fun h => (ho5 h).elim id (fun e => by rw [ho] at e; cases e), fun _ => by rw [hw3, hwr ho, wrap_one], hKr⟩, by simp [RowKit.intOf]; omega⟩
    · have g3 : decide ((k : Int) < (ks2.length : Int)) = false := by simp; omega
      obtain rfl : k = ks2.length := by omega
      obtain ⟨left, hJ3⟩ := hJ2
      have hJ4 : JX p wr.drew j d mb ib f' off' cut writes' false S m := JX.same ⟨left, hJ3⟩ ((kp_refl _ wr).drew)
      have hhead := head_any wr.drew (.slice ao ks2.length c) ks2 hg.few (fun k hk => by have := (hg.home k hk).1; omega) (hI2.kp fun _ _ _ _ => rfl)
      obtain ⟨⟨q0, q1, q2, q3, q4⟩, y0, y1, y2, y3, y4⟩ := row5 hJ3.row
      have hcall := fun w' (hK : Kp (fun _ => False) wr.drew w') => (hJ4.same hK).write p.fr (by omega) (strB (headL ks2)) (by rw [strB_size, headL_length _ hg.few])
      have hrow := fun w' (hK : Kp (fun _ => False) wr.drew w') => row5 (show w'.heap[j]? = _ from (hK.block j (blk_lt hJ3.row) (fun e => e)).trans hJ3.row)
      have hfin : ∀ w3 w4 c3 f3 off3 writes3, Kp (fun _ => False) wr.drew w3 → JX p w4 j d mb ib f3 off3 cut writes3 false S m → Kp (fun i => i = d ∨ i = ib) w3 w4 → (off3 = true → cut = true ∨ off' = true) →
          ((c3 = 603 ∧ off' = true ∧ f3 = f' ∧ off3 = true) ∨ (c3 = 0 ∧ off' = false ∧ f3 = upd f' p.fr (bytesOf (strB (headL ks2))) ∧ writes3 = wrap64 (writes' + 1))) → GroupPost p j d mb ib cut writes S m h0 ks2 w (.returned (.int .i64 c3)) w4 := by
        intro w3 w4 c3 f3 off3 writes3 hK3 hJ5 hK5 ho5 hway
        have hKr : Kp (fun i => i = d ∨ i = ib) w w4 := (hKp.trans (((kp_refl _ wr).drew).trans (hK3.imp fun _ e => e.elim))).trans hK5
        refine ⟨c3, f3, off3, writes3, rfl, hJ5, fun e => (ho5 e).elim id hoc, hKr, ?_⟩
        rcases hway with ⟨rfl, ho, rfl, hoo⟩ | ⟨rfl, ho, rfl, hw3⟩
        · exact .inr ⟨rfl, hoo, hR⟩
        · refine .inl ⟨rfl, ?_, fun _ => by rw [hw3, hwr ho, wrap_one, hlen]⟩
          rw [bytesOf_strB _ (headL_byte ks2)]
          exact hR.way hL
      go_wp2
      go_region_law (first
        | (refine step_call rfl 31 #[.slice ao ks2.length c] (by go_simp) _ hhead ?_; rintro e w3 ⟨rfl, hK3⟩; refine ⟨_, rfl, ?_⟩; have hcall3 := hcall w3 hK3; obtain ⟨⟨r0, r1, r2, r3, r4⟩, x0, x1, x2, x3, x4⟩ := hrow w3 hK3; clear hcall hhead hrow)
        | (refine step_call rfl 30 #[.pointer (some ⟨d, 0, none⟩), .int .i64 (p.fr : Int), .string (strB (headL ks2))] (by go_simp) _ hcall3 ?_; rintro e w4 ⟨c3, f3, off3, writes3, rfl, hJ5, hK5, hz5, ho5, hway⟩; refine ⟨_, rfl, ?_⟩; have hend := hfin _ _ _ _ _ _ hK3 hJ5 hK5 ho5 hway; clear hfin hway ho5))
      all_goals
        go_wp2
        go_ret
        exact hend
end
end Go.Proofs.Ytkcclaljhedmjaa

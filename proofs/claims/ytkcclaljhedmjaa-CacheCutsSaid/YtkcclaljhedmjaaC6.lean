/- JournalSteps: commit. No conditions. -/
import Derived.Test.YtkcclaljhedmjaaC5
namespace Go.Proofs.Ytkcclaljhedmjaa
open Go.RowKit Go.Maps
/-- the keys' row -/
theorem ks_exists {p : Pl} {w : World} {b m : Nat} {S : Int → Option ByteArray} (h : MapAt w b (strM S) m) (hS : Stg p S m) : ∃ ks, KsOf S m ks := by
  obtain ⟨es, clock, hb, hs, rfl, hsz, he⟩ := h
  have hkey : ∀ x ∈ es.toList, ∃ n : Nat, x.key = .int .i64 (n : Int) ∧ strM S n = some x.val := fun x hx => by
    obtain ⟨n, hn, _, hv⟩ := he.there x hx
    have hv2 := hv
    unfold strM at hv2
    obtain ⟨s, hs, _⟩ := Option.map_eq_some_iff.1 hv2
    obtain ⟨⟨k, rfl, _⟩, _⟩ := hS.home _ _ hs
    exact ⟨k, hn, hv⟩
  have hmem : ∀ k : Nat, k ∈ es.toList.map (fun x => (keyI x.key).toNat) ↔ (S (k : Int)).isSome = true := fun k => by
    rw [List.mem_map]
    constructor
    · rintro ⟨x, hx, rfl⟩
      obtain ⟨n, hn, hv⟩ := hkey x hx
      rw [hn]
      simp only [keyI, Int.toNat_natCast]
      unfold strM at hv
      obtain ⟨s, hs, _⟩ := Option.map_eq_some_iff.1 hv
      rw [hs]; rfl
    · intro hk
      obtain ⟨s, hs⟩ := Option.isSome_iff_exists.1 hk
      obtain ⟨x, hx, hxk⟩ := he.all k _ (strM_some hs)
      exact ⟨x, hx, by rw [hxk]; simp [keyI]⟩
  have hnd : (es.toList.map (fun x => (keyI x.key).toNat)).Nodup := by
    have hst := ((MapKept.stamped_iff es clock).1 hs).2.2
    unfold List.Nodup
    rw [List.pairwise_map]
    refine List.Pairwise.imp_of_mem ?_ hst
    intro a b ha hb hne e
    obtain ⟨n, hn, _⟩ := hkey a ha
    obtain ⟨n2, hn2, _⟩ := hkey b hb
    rw [hn, hn2] at e hne
    simp only [keyI, Int.toNat_natCast] at e
    exact hne (by rw [e])
  have hp := List.mergeSort_perm (es.toList.map (fun x => (keyI x.key).toNat)) (fun a b => decide (a ≤ b))
  refine ⟨_, ?_, fun k => (hp.mem_iff).trans (hmem k), by rw [hp.length_eq, List.length_map, Array.length_toList]⟩
  have h1 : ((es.toList.map (fun x => (keyI x.key).toNat)).mergeSort (fun a b => decide (a ≤ b))).Pairwise (fun a b => (decide (a ≤ b)) = true) := List.pairwise_mergeSort (fun a b c h1 h2 => by simp at *; omega) (fun a b => by simp; omega) _
  refine (h1.and (hp.nodup_iff.2 hnd)).imp ?_
  rintro a b ⟨h1, h2⟩
  simp at h1
  omega
section
variable {w : World} {yb d ib j mb hb sb hm : Nat} {f : Nat → List Nat} {off cut c : Bool} {writes : Int} {S H : Int → Option ByteArray} {m : Nat} {ks : List Nat}
abbrev stageW (w : World) (yb : Nat) : World := (w.setCell ⟨yb, 4, none⟩ (.map (some w.heap.size))).alloc (.map #[] 0)
theorem stage_play (hy : PlayAt w yb d j hb sb c) : PlayAt (stageW w yb) yb d j hb w.heap.size c ∧ MapAt (stageW w yb) w.heap.size noneM 0 ∧ Kp (fun i => i = yb) w (stageW w yb) := by
  have hlt := blk_lt hy
  have h1 := set_blk hy 4 (.map (some w.heap.size))
  have hz : (w.setCell ⟨yb, 4, none⟩ (.map (some w.heap.size))).heap.size = w.heap.size := by simp [World.setCell]
  refine ⟨(heap_alloc_old _ (.map #[] 0) (by rw [hz]; exact hlt)).trans h1, ?_, (kp_set1 w yb 4 _).trans (kp_alloc _ _ _)⟩
  have h3 := mapAt_made (w.setCell ⟨yb, 4, none⟩ (.map (some w.heap.size)))
  rw [hz] at h3
  exact h3
def Six (d ib yb hb mb j : Nat) : Nat → Prop := fun i => i = d ∨ i = ib ∨ i = yb ∨ i = hb ∨ i = mb ∨ i = j
def MixC (yb d ib hb ub : Nat) (c cut : Bool) (S : Int → Option ByteArray) (m : Nat) (w : World) (j mb : Nat) (f : Nat → List Nat) (writes : Int) (H : Int → Option ByteArray) (hm : Nat) (r : Nat) (wr : World) : Prop := MixRel yb d ib hb ub c cut S m (Six d ib yb hb mb j) w j mb ub (strM S) m f writes H hm r wr
theorem JX.wrs {p : Pl} {over : Bool} (h : JX p w j d mb ib f off cut writes over S m) : Calls Try.prog 35 #[.pointer (some ⟨d, 0, none⟩)] w (IntPost writes w) := by
  obtain ⟨left, h⟩ := h
  exact writes_any w d _ _ _ _ writes 66 h.disk.row
def CommitAll (p : Pl) (j d mb ib : Nat) (cut : Bool) (writes : Int) (S : Int → Option ByteArray) (m : Nat) (h0 : Nat → List Nat) (ks : List Nat) (w : World) (e : Ending) (w' : World) : Prop :=
  ∃ c f' off' writes' over' S' m', e = .returned (.int .i64 c) ∧ JX p w' j d mb ib f' off' cut writes' over' S' m' ∧ (off' = true → cut = true) ∧ Kp (fun i => i = d ∨ i = ib ∨ i = mb ∨ i = j) w w' ∧
    ((off' = false ∧ c = 0 ∧ over' = false ∧ S' = (fun _ => none) ∧ m' = 0 ∧ Rest p (headL []) f' (over h0 (stgN S)) ∧ ∃ u : Nat, writes' = wrap64 (writes + u) ∧ u ≤ 2 * m + 4 ∧ (m = 0 → u = 0)) ∨
     (off' = true ∧ (c = 603 ∨ c = 0) ∧ Cutted p headL f' h0 (stgN S) ks))
theorem commit_all {p : Pl} {h0 : Nat → List Nat} (h : JX p w j d mb ib f false cut writes false S m) (hS : Stg p S m) (hks : KsOf S m ks) (hr : Rest p (headL []) f h0) : Calls Try.prog 36 #[.pointer (some ⟨j, 0, none⟩)] w (CommitAll p j d mb ib cut writes S m h0 ks w) := by
  by_cases hm : 0 < m
  · refine (commit_any h hm hS hks hr).mono ?_
    rintro e w' ⟨c, f', off', writes', over', S', m', rfl, hJ, hoc, hK, hw⟩
    refine ⟨c, f', off', writes', over', S', m', rfl, hJ, hoc, hK, ?_⟩
    rcases hw with ⟨a1, a2, a3, a4, a5, a6, a7⟩ | hw
    · exact .inl ⟨a1, a2, a3, a4, a5, a6, 2 * m + 2, a7, by omega, fun e => by omega⟩
    · exact .inr hw
  · obtain rfl : m = 0 := by omega
    obtain ⟨left, hJ⟩ := h
    refine (commit_none hJ).mono ?_
    rintro e w' ⟨rfl, rfl⟩
    have hS0 : S = fun _ => none := by
      funext k
      have := congrFun hJ.map.empty k
      simpa [strM, noneM] using this
    subst hS0
    refine ⟨0, f, false, writes, false, _, 0, rfl, ⟨left, hJ⟩, fun e => (by cases e), kp_refl _ _, .inl ⟨rfl, rfl, rfl, rfl, rfl, ⟨hr.1, fun k hk => (hr.2 k hk).trans (by simp [over, stgN])⟩, 0, by simpa using hJ.disk.wr.symm, by omega, fun _ => rfl⟩⟩
def PCommitPost (yb d ib hb mb j : Nat) (c cut : Bool) (B : Nat) (w : World) (e : Ending) (w' : World) : Prop :=
  ∃ f' cut' writes' j' mb' sb' H' hm', e = .returned (.bool true) ∧ JX p7 w' j' d mb' ib f' false cut' writes' false (fun _ => none) 0 ∧ PlayAt w' yb d j' hb sb' c ∧ MapAt w' hb (strM H') hm' ∧ MapAt w' sb' noneM 0 ∧ Rest p7 (headL []) f' (hOf H') ∧ (cut = false → cut' = false) ∧ Kp (fun i => i = d ∨ i = ib ∨ i = yb ∨ i = hb ∨ i = mb ∨ i = j) w w' ∧ (j' = j ∨ w.heap.size ≤ j') ∧ (mb' = mb ∨ w.heap.size ≤ mb') ∧ w.heap.size ≤ sb' ∧ hm' ≤ B ∧ sb' ≠ mb'
set_option maxHeartbeats 2000000 in
set_option maxRecDepth 100000 in
theorem pcommit_any {n : Int} (h : JX p7 w j d mb ib f false cut writes false S m) (hS : Stg p7 S m) (hr : Rest p7 (headL []) f (hOf H)) (hy : PlayAt w yb d j hb sb c) (hH : MapAt w hb (strM H) hm) (hU : MapAt w sb (strM S) m) (hn1 : sb ≠ mb) (hn2 : hb ≠ mb) (hn3 : hb ≠ sb) (hfew : hm ≤ 90000) : Calls Try.prog 12 #[.pointer (some ⟨yb, 0, none⟩), .int .i64 n] w (PCommitPost yb d ib hb mb j c cut (hm + m) w) := by
  obtain ⟨ks, hks⟩ := ks_exists hU hS
  have hf40 := hS.few
  obtain ⟨hyd, hyi, hyj⟩ : yb ≠ d ∧ yb ≠ ib ∧ yb ≠ j := by
    obtain ⟨left, h⟩ := h
    refine ⟨?_, ?_, ?_⟩
    · rintro rfl; have := h.disk.row; rw [hy] at this; simp at this
    · rintro rfl; have := h.disk.img; rw [hy] at this; simp at this
    · rintro rfl; have := h.row; unfold JAt at this; rw [hy] at this; simp at this
  have hmap : ∀ b S' m', MapAt w b S' m' → b ≠ d ∧ b ≠ ib ∧ b ≠ j ∧ b ≠ yb := by
    intro b S' m' hM
    obtain ⟨es, clock, hbb, _⟩ := hM
    obtain ⟨left, h⟩ := h
    refine ⟨?_, ?_, ?_, ?_⟩
    · rintro rfl; have := h.disk.row; rw [hbb] at this; cases this
    · rintro rfl; have := h.disk.img; rw [hbb] at this; cases this
    · rintro rfl; have := h.row; unfold JAt at this; rw [hbb] at this; cases this
    · rintro rfl; have := hy; unfold PlayAt at this; rw [hbb] at this; cases this
  obtain ⟨hhd, hhi, hhj, hhy⟩ := hmap _ _ _ hH
  obtain ⟨hud, hui, huj, huy⟩ := hmap _ _ _ hU
  obtain ⟨left0, hJ0⟩ := h
  obtain ⟨hmd, hmi, hmj, hmy⟩ := hmap _ _ _ hJ0.map
  clear hmap
  have hwr := fun w' (h : w'.heap[d]? = w.heap[d]?) => writes_any w' d _ _ _ _ writes 66 (h.trans hJ0.disk.row)
  have hlen := fun q ty => (hU.kp ((kp_refl (fun _ => False) w).drewN q) (fun e => e)).len Try.underlying31 ty
  obtain ⟨⟨p0, p1, p2, p3, p4, p5⟩, z0, z1, z2, z3, z4, z5⟩ := row6 hy
  go_enter Try.func12, Try.ntmps12
  go_wp2
  go_quiet ((go_at_call 35; exact Calls.quiet_of_same (hwr _ rfl)))
  have hKq : Kp (fun _ => False) w (w.drewN nq) := (kp_refl _ w).drewN nq
  have hyq : PlayAt (w.drewN nq) yb d j hb sb c := hy
  have hJq : JX p7 (w.drewN nq) j d mb ib f false cut writes false S m := JX.same ⟨left0, hJ0⟩ hKq
  have hHq := hH.kp hKq (fun e => e)
  have hUq := hU.kp hKq (fun e => e)
  have hsz : (w.drewN nq).heap.size = w.heap.size := rfl
  clear hlen hwr hJ0 p0 p1 p2 p3 p4 p5 z0 z1 z2 z3 z4 z5
  generalize w.drewN nq = w1 at *
  have hcom := commit_all hJq hS hks hr
  obtain ⟨⟨p0, p1, p2, p3, p4, p5⟩, z0, z1, z2, z3, z4, z5⟩ := row6 hyq
  go_wp2_with (first
    | (go_at_call 36; refine Calls.mono hcom ?_; rintro e w2 ⟨c2, f2, off2, writes2, over2, S2, m2, rfl, hJ2, hoc2, hK2, hway⟩; have hy2 : PlayAt w2 yb d j hb sb c := (hK2.block yb (blk_lt hyq) (fun e => e.elim hyd fun e => e.elim hyi fun e => e.elim (fun e => hmy e.symm) hyj)).trans hyq; have hH2 := hHq.kp hK2 (fun e => e.elim hhd fun e => e.elim hhi fun e => e.elim hn2 hhj); have hU2 := hUq.kp hK2 (fun e => e.elim hud fun e => e.elim hui fun e => e.elim hn1 huj); obtain ⟨⟨q0, q1, q2, q3, q4, q5⟩, y0, y1, y2, y3, y4, y5⟩ := row6 hy2; have hal := hJ2.dx.alive; obtain ⟨w3, hrg, hRA, hK3, hz3⟩ := hU2.range Try.underlying31; rcases hway with ⟨rfl, rfl, rfl, rfl, rfl, hR2, u, hu, hu2, hu0⟩ | ⟨rfl, hc2, hC2⟩; rotate_left; have hreo := reopened_any (n := n) hJ2.dx hS hks hC2 hy2 hH2 hU2 hn3.symm hfew; rcases hc2 with rfl | rfl)
    | (go_at_call 37; refine Calls.mono hal ?_; rintro e w4 ⟨rfl, rfl⟩)
    | (go_at_call 8; refine Calls.mono (num_any _ _) ?_; rintro e w4 ⟨rfl, rfl⟩)
    | (go_at_call 38; refine Calls.mono hreo ?_; rintro e w5 ⟨f5, writes5, j5, mb5, sb5, H5, hm5, rfl, hJ5, hy5, hH5, hS5, hR5, hK5, hj5, hmb5, hsb5, hB5, hne5⟩))
  all_goals have hs2 := hK2.size
  all_goals first
    | (go_ret; exact ⟨f5, false, writes5, j5, mb5, sb5, H5, hm5, rfl, hJ5, hy5, hH5, hS5, hR5, fun _ => rfl, ((hKq.imp fun _ e => e.elim).trans (hK2.imp fun _ e => e.elim .inl fun e => e.elim (fun e => .inr (.inl e)) fun e => e.elim (fun e => .inr (.inr (.inr (.inr (.inl e))))) fun e => .inr (.inr (.inr (.inr (.inr e)))))).trans (hK5.imp fun _ e => e.elim .inl fun e => e.elim (fun e => .inr (.inl e)) fun e => e.elim (fun e => .inr (.inr (.inl e))) fun e => .inr (.inr (.inr (.inl e)))), .inr (by omega), .inr (by omega), by omega, hB5, hne5⟩)
    | skip
  have hA : AfterR yb d ib hb sb c cut S m (Six d ib yb hb mb j) w j mb sb (strM S) m f2 writes2 H hm w4 :=
    ⟨hJ2, hy2, hU2, hH2, hU2, (hKq.imp fun _ e => e.elim).trans (hK2.imp fun _ e => e.elim .inl fun e => e.elim (fun e => .inr (.inl e)) fun e => e.elim (fun e => .inr (.inr (.inr (.inr (.inl e))))) fun e => .inr (.inr (.inr (.inr (.inr e))))), ⟨hhj, hn2, hhd, hhi, hhy, hn3, hn3⟩, .inr (.inr (.inr (.inl rfl)))⟩
  obtain ⟨hfresh, hr8⟩ := hA.new rfl
  have hrel1 : MixC yb d ib hb sb c cut S m w j mb f2 writes2 H hm w4.heap.size w3 := ⟨_, _, hm, hRA, by rw [mix_start]; exact hA.on (hK3.imp fun _ e => e.elim) hfresh hr8, Nat.le_refl _⟩
  obtain ⟨gB, gC⟩ : decide (wrap64 (writes2 - writes) ≤ 2 * (m : Int) + 4) = true ∧ (m = 0 → (wrap64 (writes2 - writes) == 0) = true) := by
    have e : wrap64 (writes2 - writes) = (u : Int) := by rw [hu]; unfold wrap64; omega
    rw [e]
    exact ⟨by simp; omega, fun h => by rw [hu0 h]; rfl⟩
  clear hu hu0 hu2
  have hmm := fun w => run_makeMap (P := Try.prog) 31 w
  clear hRA hK3 hrg hal hA
  go_loopw [9] (fun _ wr => MixC yb d ib hb sb c cut S m w j mb f2 writes2 H hm w4.heap.size wr) (fun _ wr => wr.rangeLeft sb w4.heap.size)
  case atStart => exact hrel1
  case round =>
    obtain ⟨left, cnt, hm2, hRA, hA, hcnt⟩ := hrel
    rcases hRA.next 0 with ⟨h0, hl0, hnx⟩ | ⟨kk, v, w12, cnt2, hkw, hlk, hSv, hnx, hRA2, hlt2, hK12, hz12, hen⟩
    · have hgood : homesB f2 (mixS S H left) := fun k hk => by rw [mix_end hl0]; exact hR2.2 k hk
      obtain ⟨hpf, hmf, hKf⟩ := stage_play hA.play
      have hJf := hA.jx.kp hKf hyj.symm hyd.symm hmy hyi.symm
      have hHf := hA.home.kp hKf hhy
      have hhm := homes_any hJf.dx hpf hHf
      have hywr := blk_lt hA.play
      obtain ⟨⟨i0, i1, i2, i3, i4, i5⟩, l0, l1, l2, l3, l4, l5⟩ := row6 hA.play
      have hwf := hJf.wrs
      have hkp := hA.kp.size
      have hmbl : mb < wr.heap.size := by obtain ⟨l, h⟩ := hA.jx; exact h.map.lt
      have hcl : ∀ w14, Kp (fun _ => False) (stageW wr yb) w14 → PCommitPost yb d ib hb mb j c cut (hm + m) w (.returned (.bool true)) w14 := fun w14 hK14 =>
        ⟨f2, cut, writes2, j, mb, wr.heap.size, mixS S H left, hm2, rfl, hJf.same hK14, (hK14.block yb (blk_lt hpf) (fun e => e)).trans hpf, hHf.kp hK14 (fun e => e), hmf.kp hK14 (fun e => e), ⟨hR2.1, hgood⟩, fun e => e, (hA.kp.trans (hKf.imp fun _ e => .inr (.inr (.inl e)))).trans (hK14.imp fun _ e => e.elim), .inl rfl, .inl rfl, hkp, by omega, by omega⟩
      by_cases hm0 : m = 0
      case' pos =>
        have gE := gC hm0
        have gB2 : decide (wrap64 (writes2 - writes) ≤ 4) = true := by rw [hm0] at gB; simpa using gB
      case' neg =>
        have gD : decide ((0 : Int) < (m : Int)) = true := by simp; omega
      all_goals clear gC
      all_goals
        go_wp2_with (first
          | (go_at_call 35; refine Calls.mono hwf ?_; rintro e w13 ⟨rfl, rfl⟩)
          | (go_at_call 8; refine Calls.mono (num_any _ _) ?_; rintro e w13 ⟨rfl, rfl⟩)
          | (go_at_call 9; refine Calls.mono hhm ?_; rintro e w14 ⟨β, rfl, hβ, hK14⟩; obtain rfl : β = true := hβ.2 hgood))
        go_ret
        exact hcl _ hK14
    · obtain ⟨s, hs⟩ : ∃ s, S kk = some s := by
        unfold strM at hSv
        obtain ⟨s, hs, _⟩ := Option.map_eq_some_iff.1 hSv
        exact ⟨s, hs⟩
      obtain rfl : v = .string s := by rw [strM_some hs] at hSv; exact (Option.some.inj hSv).symm
      have hA12 := hA.on hK12 hfresh hr8
      obtain ⟨w14, hst, hM14, hK14, hz14⟩ := hA12.home.store (by omega) Try.underlying31 hkw (.string s)
      rw [strM_put, mix_step hs] at hM14
      have hA14 := hA12.put hM14 hK14
      obtain ⟨⟨i0, i1, i2, i3, i4, i5⟩, l0, l1, l2, l3, l4, l5⟩ := row6 hA12.play
      have hRA14 := hRA2.kp hK14 hn3.symm hfresh.2.2.2.2.2.2.1
      go_wp2
      refine ⟨⟨_, cnt2, _, hRA14, hA14, ?_⟩, by rw [hRA14.left_eq, hRA.left_eq]; exact hlt2⟩
      split <;> omega
end
end Go.Proofs.Ytkcclaljhedmjaa

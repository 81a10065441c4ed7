/- JournalSteps: opened behind a cut. No conditions. -/
import Derived.Test.YtkcclaljhedmjaaC4
namespace Go.Proofs.Ytkcclaljhedmjaa
open Go.RowKit Go.Maps
theorem i64_and15 (n : Int) : bits .and .i64 n 15 = n % 16 := by
  have h15 : (BitVec.ofInt 64 15).toNat = 2 ^ 4 - 1 := by decide
  have key : (BitVec.ofInt 64 n &&& BitVec.ofInt 64 15).toNat = (n % ((2 ^ 64 : Nat) : Int)).toNat % 2 ^ 4 := by
    rw [BitVec.toNat_and, BitVec.toNat_ofInt, h15, Nat.and_two_pow_sub_one_eq_mod]
  show IntKind.i64.wrap ((BitVec.ofInt 64 n &&& BitVec.ofInt 64 15).toNat : Nat) = n % 16
  rw [key, IntKind.wrap_i64]
  omega
section
variable {w : World} {yb d ib j hb sb hm sm ub um : Nat} {f : Nat → List Nat} {off cut c : Bool} {writes : Int} {S H : Int → Option ByteArray} {m : Nat} {ks : List Nat}
theorem DX.on {p : Pl} (h : DX p w d ib f off cut writes) : Calls Try.prog 17 #[.pointer (some ⟨d, 0, none⟩)] w fun e w' => e = .returned (.int .i64 0) ∧ DX p w' d ib f false false writes ∧ Kp (fun k => k = d) w w' ∧ w'.heap.size = w.heap.size := by
  obtain ⟨left, h⟩ := h
  have hne : ib ≠ d := by
    rintro rfl
    have := h.row; rw [h.img] at this; simp at this
  refine (on_any w d _ off cut left writes h.row).mono ?_
  rintro e w' ⟨rfl, hK, hz, hr⟩
  exact ⟨rfl, ⟨left, hr, (hK.block ib (blk_lt h.img) hne).trans h.img, h.len, h.byt, h.wr⟩, hK, hz⟩
theorem DX.cuts {p : Pl} (h : DX p w d ib f false cut writes) (n : Int) (hn : 0 ≤ n) : Calls Try.prog 16 #[.pointer (some ⟨d, 0, none⟩), .int .i64 n] w fun e w' => e = .returned (.int .i64 0) ∧ DX p w' d ib f (n == 0) true writes ∧ Kp (fun k => k = d) w w' ∧ w'.heap.size = w.heap.size := by
  obtain ⟨left, h⟩ := h
  have hne : ib ≠ d := by
    rintro rfl
    have := h.row; rw [h.img] at this; simp at this
  refine (cut_any w d _ cut left writes n hn h.row).mono ?_
  rintro e w' ⟨rfl, hK, hz, hr⟩
  exact ⟨rfl, ⟨n, hr, (hK.block ib (blk_lt h.img) hne).trans h.img, h.len, h.byt, h.wr⟩, hK, hz⟩
theorem DX.alive {p : Pl} (h : DX p w d ib f off cut writes) : Calls Try.prog 37 #[.pointer (some ⟨d, 0, none⟩)] w (BoolPost (!off) w) := by
  obtain ⟨left, h⟩ := h
  exact alive_any w d _ _ _ _ off 66 h.row
/-- opened, on or off -/
theorem DX.opens {p : Pl} {h0 : Nat → List Nat} (h : DX p w d ib f off cut writes) (hS : Stg p S m) (hks : KsOf S m ks) (hc : Cutted p headL f h0 (stgN S) ks) : Calls Try.prog 18 #[.pointer (some ⟨d, 0, none⟩), .int .i64 (p.fr : Int), .int .i64 (p.bl : Int)] w fun e w' => ∃ v c f' off' writes', e = .returned (.tuple #[.pointer v, .int .i64 c]) ∧ DX p w' d ib f' off' cut writes' ∧ Cutted p headL f' h0 (stgN S) ks ∧ Kp (fun i => i = d ∨ i = ib) w w' := by
  cases off
  · refine (open_any h hS hks hc).mono ?_
    rintro e w' ⟨f', off', writes', hK, hoc, hway⟩
    rcases hway with ⟨j, mb, hj, hmb, rfl, hJ, hR⟩ | ⟨rfl, hD, hoo, hC⟩
    · refine ⟨_, _, f', off', writes', rfl, hJ.dx, ?_, hK⟩
      rcases hR with hR | hR
      · exact .inl hR
      · exact .inr (.inr hR)
    · exact ⟨_, _, f', off', writes', rfl, hD, hC, hK⟩
  · refine (open_off h).mono ?_
    rintro e w' ⟨rfl, rfl⟩
    exact ⟨_, _, f, true, writes, rfl, h, hc, kp_refl _ _⟩
def OpenGood (p : Pl) (d ib : Nat) (S : Int → Option ByteArray) (h0 : Nat → List Nat) (w : World) (e : Ending) (w' : World) : Prop :=
  ∃ f' writes' j mb, w.heap.size ≤ j ∧ w.heap.size ≤ mb ∧ e = .returned (.tuple #[.pointer (some ⟨j, 0, none⟩), .int .i64 0]) ∧ JX p w' j d mb ib f' false false writes' false (fun _ => none) 0 ∧ (Rest p (headL []) f' h0 ∨ Rest p (headL []) f' (over h0 (stgN S))) ∧ Kp (fun i => i = d ∨ i = ib) w w'
/-- opened with the power on -/
theorem DX.openg {p : Pl} {h0 : Nat → List Nat} (h : DX p w d ib f false false writes) (hS : Stg p S m) (hks : KsOf S m ks) (hc : Cutted p headL f h0 (stgN S) ks) : Calls Try.prog 18 #[.pointer (some ⟨d, 0, none⟩), .int .i64 (p.fr : Int), .int .i64 (p.bl : Int)] w (OpenGood p d ib S h0 w) := by
  refine (open_any h hS hks hc).mono ?_
  rintro e w' ⟨f', off', writes', hK, hoc, hway⟩
  cases off'
  · rcases hway with ⟨j, mb, hj, hmb, rfl, hJ, hR⟩ | ⟨rfl, hD, hoo, hC⟩
    · exact ⟨f', writes', j, mb, hj, hmb, rfl, hJ, hR, hK⟩
    · cases hoo
  · have := hoc rfl
    cases this
def Four (d ib yb hb : Nat) : Nat → Prop := fun i => i = d ∨ i = ib ∨ i = yb ∨ i = hb
def ReopRel (d ib : Nat) (S : Int → Option ByteArray) (h0 : Nat → List Nat) (ks : List Nat) (w wr : World) : Prop := ∃ f' off' cut' writes', DX p7 wr d ib f' off' cut' writes' ∧ Cutted p7 headL f' h0 (stgN S) ks ∧ Kp (fun i => i = d ∨ i = ib) w wr
/-- whole, or not at all -/
def ReopPost (yb d ib hb : Nat) (c : Bool) (B : Nat) (w : World) (e : Ending) (w' : World) : Prop :=
  ∃ f' writes' j' mb' sb' H' hm', e = .returned (.bool true) ∧ JX p7 w' j' d mb' ib f' false false writes' false (fun _ => none) 0 ∧ PlayAt w' yb d j' hb sb' c ∧ MapAt w' hb (strM H') hm' ∧ MapAt w' sb' noneM 0 ∧ Rest p7 (headL []) f' (hOf H') ∧ Kp (Four d ib yb hb) w w' ∧ w.heap.size ≤ j' ∧ w.heap.size ≤ mb' ∧ w.heap.size ≤ sb' ∧ hm' ≤ B ∧ sb' ≠ mb'
/-- another journal, nothing staged -/
abbrev freshW (w : World) (yb j : Nat) : World := ((w.setCell ⟨yb, 1, none⟩ (.pointer (some ⟨j, 0, none⟩))).setCell ⟨yb, 4, none⟩ (.map (some w.heap.size))).alloc (.map #[] 0)
theorem fresh_kp (w : World) (yb j : Nat) : Kp (fun i => i = yb) w (freshW w yb j) := ((kp_set1 w yb 1 _).trans (kp_set1 _ yb 4 _)).trans (kp_alloc _ _ _)
theorem fresh_play (hy : PlayAt w yb d j hb sb c) (j2 : Nat) : PlayAt (freshW w yb j2) yb d j2 hb w.heap.size c ∧ MapAt (freshW w yb j2) w.heap.size noneM 0 := by
  have hlt := blk_lt hy
  have h1 := set_blk (set_blk hy 1 (.pointer (some ⟨j2, 0, none⟩))) 4 (.map (some w.heap.size))
  have hz : ((w.setCell ⟨yb, 1, none⟩ (.pointer (some ⟨j2, 0, none⟩))).setCell ⟨yb, 4, none⟩ (.map (some w.heap.size))).heap.size = w.heap.size := by simp [World.setCell]
  refine ⟨(heap_alloc_old _ (.map #[] 0) (by rw [hz]; exact hlt)).trans h1, ?_⟩
  have h3 := mapAt_made ((w.setCell ⟨yb, 1, none⟩ (.pointer (some ⟨j2, 0, none⟩))).setCell ⟨yb, 4, none⟩ (.map (some w.heap.size)))
  rw [hz] at h3
  exact h3
/-- the homes are being told anew -/
structure AfterR (yb d ib hb ub : Nat) (c cut : Bool) (S : Int → Option ByteArray) (m : Nat) (F : Nat → Prop) (w : World) (j mb sb : Nat) (T : Int → Option Value) (tm : Nat) (f : Nat → List Nat) (writes : Int) (H : Int → Option ByteArray) (hm : Nat) (W : World) : Prop where
  jx : JX p7 W j d mb ib f false cut writes false (fun _ => none) 0
  play : PlayAt W yb d j hb sb c
  stage : MapAt W sb T tm
  home : MapAt W hb (strM H) hm
  under : MapAt W ub (strM S) m
  kp : Kp F w W
  ne : hb ≠ j ∧ hb ≠ mb ∧ hb ≠ d ∧ hb ≠ ib ∧ hb ≠ yb ∧ hb ≠ ub ∧ hb ≠ sb
  fhb : F hb
section
variable {F : Nat → Prop} {T : Int → Option Value} {tm mb2 sb2 : Nat} {W W' : World}
/-- another block is written -/
theorem AfterR.on {r : Nat} (h : AfterR yb d ib hb ub c cut S m F w j mb2 sb2 T tm f writes H hm W) (hK : Kp (fun i => i = r) W W') (hr : r ≠ j ∧ r ≠ d ∧ r ≠ mb2 ∧ r ≠ ib ∧ r ≠ yb ∧ r ≠ sb2 ∧ r ≠ hb ∧ r ≠ ub) (hr2 : w.heap.size ≤ r) : AfterR yb d ib hb ub c cut S m F w j mb2 sb2 T tm f writes H hm W' := by
  obtain ⟨r1, r2, r3, r4, r5, r6, r7, r8⟩ := hr
  exact ⟨h.jx.kp hK r1.symm r2.symm r3.symm r4.symm, (hK.block yb (blk_lt h.play) r5.symm).trans h.play, h.stage.kp hK r6.symm, h.home.kp hK r7.symm, h.under.kp hK r8.symm, Kp.new h.kp hK (fun i e => .inr (by omega)), h.ne, h.fhb⟩
/-- one block more is home -/
theorem AfterR.put {H' : Int → Option ByteArray} {hm' : Nat} (h : AfterR yb d ib hb ub c cut S m F w j mb2 sb2 T tm f writes H hm W) (hM : MapAt W' hb (strM H') hm') (hK : Kp (fun i => i = hb) W W') : AfterR yb d ib hb ub c cut S m F w j mb2 sb2 T tm f writes H' hm' W' := by
  obtain ⟨n1, n2, n3, n4, n5, n6, n7⟩ := h.ne
  exact ⟨h.jx.kp hK n1.symm n3.symm n2.symm n4.symm, (hK.block yb (blk_lt h.play) n5.symm).trans h.play, h.stage.kp hK n7.symm, hM, h.under.kp hK n6.symm, h.kp.trans (hK.imp fun _ e => by subst e; exact h.fhb), h.ne, h.fhb⟩
/-- a block that is none of theirs -/
theorem AfterR.new (h : AfterR yb d ib hb ub c cut S m F w j mb2 sb2 T tm f writes H hm W) {r : Nat} (hr : r = W.heap.size) : (r ≠ j ∧ r ≠ d ∧ r ≠ mb2 ∧ r ≠ ib ∧ r ≠ yb ∧ r ≠ sb2 ∧ r ≠ hb ∧ r ≠ ub) ∧ w.heap.size ≤ r := by
  obtain ⟨l9, hJ9⟩ := h.jx
  have q1 := blk_lt hJ9.row
  have q2 := blk_lt hJ9.disk.row
  have q3 := hJ9.map.lt
  have q4 := blk_lt hJ9.disk.img
  have q5 := blk_lt h.play
  have q6 := h.stage.lt
  have q7 := h.home.lt
  have q8 := h.under.lt
  have q9 := h.kp.size
  omega
end
def mixS (S H : Int → Option ByteArray) (left : Int → Bool) : Int → Option ByteArray := fun k => if (S k).isSome = true ∧ left k = false then S k else H k
theorem mix_start (S H : Int → Option ByteArray) : mixS S H (allM (strM S)) = H := by
  funext k
  unfold mixS allM strM
  rw [if_neg]
  rintro ⟨h1, h2⟩
  rw [Option.isSome_map, h1] at h2
  cases h2
theorem mix_step {left : Int → Bool} {k : Int} {s : ByteArray} (hs : S k = some s) : putS (mixS S H left) k s = mixS S H (fun n => left n && n != k) := by
  funext i
  unfold putS mixS
  by_cases hi : i = k
  · subst hi
    rw [if_pos rfl, if_pos, hs]
    simp [hs]
  · rw [if_neg hi]
    have : (fun n => left n && n != k) i = left i := by simp [hi]
    rw [this]
theorem mix_end {left : Int → Bool} (h : ∀ n, left n = false) : hOf (mixS S H left) = over (hOf H) (stgN S) := by
  funext k
  unfold over hOf stgN wantS mixS
  cases hS : S (k : Int) with
  | none => simp
  | some s => simp [h]
theorem RangeAt.left_eq {b r : Nat} {S : Int → Option Value} {left : Int → Bool} {cnt : Nat} (h : RangeAt w b r S left cnt) : w.rangeLeft b r = cnt := by
  obtain ⟨es, clock, since, seen, c0, hb, _, _, _, hr, _, hc, _⟩ := h
  simp only [World.rangeLeft, hb, hr]
  exact hc
def MixRel (yb d ib hb ub : Nat) (c cut : Bool) (S : Int → Option ByteArray) (m : Nat) (F : Nat → Prop) (w : World) (j mb sb : Nat) (T : Int → Option Value) (tm : Nat) (f : Nat → List Nat) (writes : Int) (H : Int → Option ByteArray) (hm : Nat) (r : Nat) (wr : World) : Prop :=
  ∃ left cnt hm2, RangeAt wr ub r (strM S) left cnt ∧ AfterR yb d ib hb ub c cut S m F w j mb sb T tm f writes (mixS S H left) hm2 wr ∧ hm2 + cnt ≤ hm + m
def MixO (yb d ib hb ub : Nat) (c : Bool) (S : Int → Option ByteArray) (m : Nat) (w : World) (j mb sb : Nat) (f : Nat → List Nat) (writes : Int) (H : Int → Option ByteArray) (hm : Nat) (r : Nat) (wr : World) : Prop := MixRel yb d ib hb ub c false S m (Four d ib yb hb) w j mb sb noneM 0 f writes H hm r wr
theorem after_mk {w8 w10 : World} {j8 mb8 : Nat} {f8 : Nat → List Nat} {writes8 : Int} (hy : PlayAt w yb d j hb sb c) (hH : MapAt w hb (strM H) hm) (hU : MapAt w ub (strM S) m) (hn : yb ≠ d ∧ yb ≠ ib ∧ hb ≠ d ∧ hb ≠ ib ∧ hb ≠ yb ∧ ub ≠ d ∧ ub ≠ ib ∧ ub ≠ yb) (hub : ub ≠ hb) (hK8 : Kp (fun i => i = d ∨ i = ib) w w8) (hj : w.heap.size ≤ j8) (hmb : w.heap.size ≤ mb8) (hJ8 : JX p7 w8 j8 d mb8 ib f8 false false writes8 false (fun _ => none) 0) (hK10 : Kp (fun _ => False) (freshW w8 yb j8) w10) : AfterR yb d ib hb ub c false S m (Four d ib yb hb) w j8 mb8 w8.heap.size noneM 0 f8 writes8 H hm w10 := by
  obtain ⟨n1, n2, n3, n4, n5, n6, n7, n8⟩ := hn
  have hyl := blk_lt hy
  have hhl := hH.lt
  have hs8 := hK8.size
  have hy8 : PlayAt w8 yb d j hb sb c := (hK8.block yb hyl (fun e => e.elim n1 n2)).trans hy
  obtain ⟨hpf, hmf⟩ := fresh_play hy8 j8
  have hKf := fresh_kp w8 yb j8
  refine ⟨(hJ8.kp hKf (by omega) n1.symm (by omega) n2.symm).same hK10, (hK10.block yb (blk_lt hpf) (fun e => e)).trans hpf, hmf.kp hK10 (fun e => e), ((hH.kp hK8 (fun e => e.elim n3 n4)).kp hKf n5).kp hK10 (fun e => e), ((hU.kp hK8 (fun e => e.elim n6 n7)).kp hKf n8).kp hK10 (fun e => e), ?_, ⟨by omega, by omega, n3, n4, n5, hub.symm, by omega⟩, .inr (.inr (.inr rfl))⟩
  exact ((hK8.imp fun _ e => e.elim .inl fun e => .inr (.inl e)).trans (hKf.imp fun _ e => .inr (.inr (.inl e)))).trans (hK10.imp fun _ e => e.elim)
set_option maxHeartbeats 2000000 in
set_option maxRecDepth 100000 in
theorem reopened_any {n : Int} (h : DX p7 w d ib f off cut writes) (hS : Stg p7 S m) (hks : KsOf S m ks) (hc : Cutted p7 headL f (hOf H) (stgN S) ks) (hy : PlayAt w yb d j hb sb c) (hH : MapAt w hb (strM H) hm) (hU : MapAt w ub (strM S) m) (hub : ub ≠ hb) (hfew : hm ≤ 90000) : Calls Try.prog 38 #[.pointer (some ⟨yb, 0, none⟩), .int .i64 n, .map (some ub)] w (ReopPost yb d ib hb c (hm + m) w) := by
  have hne1 : yb ≠ d := by
    rintro rfl
    obtain ⟨left, h⟩ := h
    have := h.row; rw [hy] at this; simp at this
  have hne2 : yb ≠ ib := by
    rintro rfl
    obtain ⟨left, h⟩ := h
    have := h.img; rw [hy] at this; simp at this
  have hmm := fun w => run_makeMap (P := Try.prog) 31 w
  obtain ⟨hhd, hhi, hhy⟩ : hb ≠ d ∧ hb ≠ ib ∧ hb ≠ yb := by
    obtain ⟨es, clock, hbb, _⟩ := hH
    obtain ⟨left, h⟩ := h
    refine ⟨?_, ?_, ?_⟩
    · rintro rfl
      have := h.row; rw [hbb] at this; cases this
    · rintro rfl
      have := h.img; rw [hbb] at this; cases this
    · rintro rfl
      have := hy; unfold PlayAt at this; rw [hbb] at this; cases this
  obtain ⟨hud, hui, huy⟩ : ub ≠ d ∧ ub ≠ ib ∧ ub ≠ yb := by
    obtain ⟨es, clock, hbb, _⟩ := hU
    obtain ⟨left, h⟩ := h
    refine ⟨?_, ?_, ?_⟩
    · rintro rfl
      have := h.row; rw [hbb] at this; cases this
    · rintro rfl
      have := h.img; rw [hbb] at this; cases this
    · rintro rfl
      have := hy; unfold PlayAt at this; rw [hbb] at this; cases this
  have hrel0 : ReopRel d ib S (hOf H) ks w w := ⟨f, off, cut, writes, h, hc, kp_refl _ _⟩
  obtain ⟨z, hz, h0z⟩ : ∃ z, bits .and .i64 n 15 = z ∧ 0 ≤ z := ⟨_, rfl, by rw [i64_and15]; omega⟩
  go_enter Try.func38, Try.ntmps38
  go_wp2
  go_loopw [7] (fun i wr => ∃ k : Nat, i = .int .i64 k ∧ k ≤ 3 ∧ ReopRel d ib S (hOf H) ks w wr) (fun i _ => 3 - (RowKit.intOf i).toNat)
  case atStart => exact ⟨0, rfl, by omega, hrel0⟩
  case round =>
    obtain ⟨k, rfl, hk, f1, off1, cut1, writes1, hD1, hC1, hK1⟩ := hrel
    have hy1 : PlayAt wr yb d j hb sb c := (hK1.block yb (blk_lt hy) (fun e => e.elim hne1 hne2)).trans hy
    obtain ⟨⟨p0, p1, p2, p3, p4, p5⟩, z0, z1, z2, z3, z4, z5⟩ := row6 hy1
    have hon := hD1.on
    have hR : ReopRel d ib S (hOf H) ks w wr := ⟨f1, off1, cut1, writes1, hD1, hC1, hK1⟩
    have hzk : 0 ≤ z / 2 ^ k := Int.ediv_nonneg h0z (Int.le_of_lt (Int.pow_pos (by decide)))
    have hlt : k < 3 ∨ k = 3 := by omega
    rcases hlt with hlt | hlt
    case' inl =>
      have g3 : decide ((k : Int) < 3) = true := by simp; omega
      go_wp2_with (first
        | (go_at_call 17; refine Calls.mono hon ?_; rintro e w2 ⟨rfl, hD2, hK2, hz2⟩; have hy2 : PlayAt w2 yb d j hb sb c := (hK2.block yb (blk_lt hy1) hne1).trans hy1; obtain ⟨⟨q0, q1, q2, q3, q4, q5⟩, y0, y1, y2, y3, y4, y5⟩ := row6 hy2; have hcut := hD2.cuts _ hzk; clear hon)
        | (go_at_call 16; refine Calls.mono hcut ?_; rintro e w3 ⟨rfl, hD3, hK3, hz3⟩; have hy3 : PlayAt w3 yb d j hb sb c := (hK3.block yb (blk_lt hy2) hne1).trans hy2; obtain ⟨⟨r0, r1, r2, r3, r4, r5⟩, x0, x1, x2, x3, x4, x5⟩ := row6 hy3; have hop := hD3.opens hS hks hC1; clear hcut)
        | (go_at_call 18; refine Calls.mono hop ?_; rintro e w4 ⟨v, c4, f4, off4, writes4, rfl, hD4, hC4, hK4⟩; have hy4 : PlayAt w4 yb d j hb sb c := (hK4.block yb (blk_lt hy3) (fun e => e.elim hne1 hne2)).trans hy3; obtain ⟨⟨s0, s1, s2, s3, s4, s5⟩, t0, t1, t2, t3, t4, t5⟩ := row6 hy4; have hal := hD4.alive; have hR4 : ReopRel d ib S (hOf H) ks w w4 := ⟨f4, off4, true, writes4, hD4, hC4, ((hK1.trans (hK2.imp fun _ e => .inl e)).trans (hK3.imp fun _ e => .inl e)).trans hK4⟩; clear hop; cases v; all_goals cases off4)
        | (go_at_call 37; refine Calls.mono hal ?_; rintro e w5 ⟨rfl, rfl⟩))
      all_goals first
        | exact ⟨⟨k + 1, by simp, by omega, hR4⟩, by simp [RowKit.intOf]; omega⟩
        | (replace hR := hR4)
    case' inr =>
      subst hlt
      have g3 : decide (((3 : Nat) : Int) < 3) = false := by simp
    all_goals
      obtain ⟨f6, off6, cut6, writes6, hD6, hC6, hK6⟩ := hR
      have hy6 : PlayAt _ yb d j hb sb c := (hK6.block yb (blk_lt hy) (fun e => e.elim hne1 hne2)).trans hy
      obtain ⟨⟨i0, i1, i2, i3, i4, i5⟩, l0, l1, l2, l3, l4, l5⟩ := row6 hy6
      have hon6 := hD6.on
      go_wp2_with (first
        | (go_at_call 17; refine Calls.mono hon6 ?_; rintro e w7 ⟨rfl, hD7, hK7, hz7⟩; have hy7 : PlayAt w7 yb d j hb sb c := (hK7.block yb (blk_lt hy6) hne1).trans hy6; obtain ⟨⟨m0, m1, m2, m3, m4, m5⟩, n0, n1, n2, n3, n4, n5⟩ := row6 hy7; have hop7 := hD7.openg hS hks hC6; clear hon6)
        | (go_at_call 18; refine Calls.mono hop7 ?_; rintro e w8 ⟨f8, writes8, j8, mb8, hj8, hmb8, rfl, hJ8, hR8, hK8⟩; have hy8 : PlayAt w8 yb d j hb sb c := (hK8.block yb (blk_lt hy7) (fun e => e.elim hne1 hne2)).trans hy7; obtain ⟨⟨o0, o1, o2, o3, o4, o5⟩, b0, b1, b2, b3, b4, b5⟩ := row6 hy8; clear hop7; have hlt8 := blk_lt hy8; obtain ⟨hpf, hmf⟩ := fresh_play hy8 j8; have hKf := fresh_kp w8 yb j8; have hDf := hJ8.dx.kp hKf hne1.symm hne2.symm; have hK8w := (hK6.trans (hK7.imp fun _ e => .inl e)).trans hK8; have hHf := (hH.kp hK8w (fun e => e.elim hhd hhi)).kp hKf hhy; have hhm := homes_any hDf hpf hHf; have hs8 := hK6.size; have hs9 := hK7.size; have hs10 := hK8.size; have hmbl : mb8 < w8.heap.size := (by obtain ⟨l, h⟩ := hJ8; exact h.map.lt); have hAf := fun w10 => after_mk (w10 := w10) hy hH hU ⟨hne1, hne2, hhd, hhi, hhy, hud, hui, huy⟩ hub hK8w (by omega) (by omega) hJ8)
        | (go_at_call 8; refine Calls.mono (num_any _ _) ?_; rintro e w9 ⟨rfl, rfl⟩)
        | (go_at_call 9; refine Calls.mono hhm ?_; rintro e w10 ⟨β, rfl, hβ, hK10⟩; have hA := hAf w10 hK10; clear hAf; obtain ⟨w11, hrg, hRA, hK11, hz11⟩ := hA.under.range Try.underlying31; cases β))
      all_goals first
        | (go_ret; refine ⟨f8, writes8, j8, mb8, _, H, hm, rfl, hA.jx, hA.play, hA.home, hA.stage, ⟨hR8.elim (fun h => h.1) (fun h => h.1), hβ.1 (by simp)⟩, hA.kp, by omega, by omega, by omega, by omega, by omega⟩)
        | skip
      obtain ⟨hfresh, hr8⟩ := hA.new rfl
      have hrel1 : MixRel yb d ib hb ub c false S m (Four d ib yb hb) w j8 mb8 w9.heap.size noneM 0 f8 writes8 H hm w10.heap.size w11 := ⟨_, _, hm, hRA, by rw [mix_start]; exact hA.on (hK11.imp fun _ e => e.elim) hfresh hr8, Nat.le_refl _⟩
      have hR9 : ¬ homesB f8 H := fun h => by simpa using hβ.2 h
      have hm0 : 0 < m := by
        apply Classical.byContradiction
        intro hm0
        obtain rfl : m = 0 := by omega
        have hS0 := hA.under.empty
        rcases hR8 with h | h
        · exact hR9 h.2
        · refine hR9 fun k hk => (h.2 k hk).trans ?_
          have : S (k : Int) = none := by
            have := congrFun hS0 (k : Int)
            simpa [strM, noneM] using this
          simp [over, stgN, this]
      have hR10 : Rest p7 (headL []) f8 (over (hOf H) (stgN S)) := hR8.elim (fun h => absurd h.2 hR9) id
      clear hA hRA hK11 hrg hβ
      replace hrel1 := Lib.hid hrel1
      go_loopw [12] (fun _ wr => MixO yb d ib hb ub c S m w j8 mb8 w9.heap.size f8 writes8 H hm w10.heap.size wr) (fun _ wr => wr.rangeLeft ub w10.heap.size)
      case atStart => exact hrel1.out
      case round =>
        obtain ⟨left, cnt, hm2, hRA, hA, hcnt⟩ := hrel
        rcases hRA.next 0 with ⟨h0, hl0, hnx⟩ | ⟨kk, v, w12, cnt2, hkw, hlk, hSv, hnx, hRA2, hlt2, hK12, hz12, hen⟩
        · have hlen := fun ty => hA.under.len Try.underlying31 ty
          have g7 : decide ((0 : Int) < (m : Int)) = true := by simp; omega
          have hhm := homes_any hA.jx.dx hA.play hA.home
          have hgood : homesB f8 (mixS S H left) := fun k hk => by rw [mix_end hl0]; exact hR10.2 k hk
          go_wp2_with (go_at_call 9; refine Calls.mono hhm ?_; rintro e w13 ⟨β, rfl, hβ, hK13⟩; obtain rfl : β = true := hβ.2 hgood)
          go_ret
          exact ⟨f8, writes8, j8, mb8, _, mixS S H left, hm2, rfl, hA.jx.same hK13, (hK13.block yb (blk_lt hA.play) (fun e => e)).trans hA.play, hA.home.kp hK13 (fun e => e), hA.stage.kp hK13 (fun e => e), ⟨hR10.1, hgood⟩, hA.kp.trans (hK13.imp fun _ e => e.elim), by omega, by omega, by omega, by omega, by omega⟩
        · obtain ⟨s, hs⟩ : ∃ s, S kk = some s := by
            unfold strM at hSv
            obtain ⟨s, hs, _⟩ := Option.map_eq_some_iff.1 hSv
            exact ⟨s, hs⟩
          obtain rfl : v = .string s := by rw [strM_some hs] at hSv; exact (Option.some.inj hSv).symm
          have hA12 := hA.on hK12 hfresh hr8
          have hf40 := hS.few
          obtain ⟨w14, hst, hM14, hK14, hz14⟩ := hA12.home.store (by omega) Try.underlying31 hkw (.string s)
          rw [strM_put, mix_step hs] at hM14
          have hA14 := hA12.put hM14 hK14
          obtain ⟨⟨i0, i1, i2, i3, i4, i5⟩, l0, l1, l2, l3, l4, l5⟩ := row6 hA12.play
          have hRA14 := hRA2.kp hK14 hub (by omega)
          go_wp2
          refine ⟨⟨_, cnt2, _, hRA14, hA14, ?_⟩, by rw [hRA14.left_eq, hRA.left_eq]; exact hlt2⟩
          split <;> omega
end
end Go.Proofs.Ytkcclaljhedmjaa

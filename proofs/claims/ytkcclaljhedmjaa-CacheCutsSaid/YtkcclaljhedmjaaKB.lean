/- The cache: block, Read, Pin, Unpin, Write, Dirty, Forget. No conditions. -/
import Derived.Test.YtkcclaljhedmjaaKA
import Derived.Test.YtkcclaljhedmjaaB7
import Derived.Test.YtkcclaljhedmjaaJ2
namespace Go.Proofs.Ytkcclaljhedmjaa
section
open Go.RowKit Go.Maps Go.Lib
section
variable {p : Pl} {w : World} {cb j hb size d mb ib : Nat} {v : Value} {ring : List Nat} {X : Nat → Hb} {f : Nat → List Nat} {cut : Bool} {left writes : Int} {S : Int → Option ByteArray} {m : Nat} {at_ : Int}
def BlkNo (c : Int) (w : World) (e : Ending) (w' : World) : Prop := e = .returned (.tuple #[.pointer none, .int .i64 c]) ∧ ∃ k, w' = w.drewN k
/-- what came of it -/
def Got (ring : List Nat) (X : Nat → Hb) (k : Nat) (s : ByteArray) (ring' : List Nat) (X' : Nat → Hb) : Prop :=
  (∀ l ∈ ring', l ≠ k → l ∈ ring ∧ Alike X X' l) ∧ (k ∈ ring → Alike X X' k) ∧ (k ∉ ring → (X' k).data = s ∧ (X' k).dirty = false ∧ (X' k).pins = 0) ∧ ∀ l ∈ ring, l ∉ ring' → (X l).need = false
def BlkPost (cb j hb size : Nat) (ring : List Nat) (X : Nat → Hb) (k : Nat) (s : ByteArray) (w : World) (e : Ending) (w' : World) : Prop :=
  ∃ v ring' X', CAt w' cb j hb size v ring' X' ∧ Tch cb hb w w' ∧
    ((e = .returned (.tuple #[.pointer (some ⟨(X' k).blk, 0, none⟩), .int .i64 0]) ∧ k ∈ ring' ∧ Got ring X k s ring' X') ∨
     (e = .returned (.tuple #[.pointer none, .int .i64 801]) ∧ k ∉ ring ∧ ring'.length = size ∧ (∀ l ∈ ring', (X' l).need = true) ∧ Fewer ring X ring' X'))
set_option maxHeartbeats 1000000 in
theorem cblock_no (h : CAt w cb j hb size v ring X) (hJ : JW p w j d mb ib f false cut left writes false S m) (hno : homeB p.n p.fr p.bl at_ = false) : Calls Try.prog 53 #[.pointer (some ⟨cb, 0, none⟩), .int .i64 at_] w (BlkNo 703 w) := by
  have hrd := read_no hJ hno
  obtain ⟨⟨p0, p1, p2, p3⟩, z0, z1, z2, z3⟩ := row4 h.row
  go_enter Try.func53, Try.ntmps53
  go_wp2_with (go_at_call 14; refine Calls.mono hrd ?_; rintro e w1 ⟨rfl, q, rfl⟩)
  go_ret2
  exact ⟨rfl, _, rfl⟩
set_option maxHeartbeats 1000000 in
set_option maxRecDepth 100000 in
theorem cblock_in {k : Nat} (h : CAt w cb j hb size v ring X) (hJ : JW p w j d mb ib f false cut left writes false S m) (hyes : homeB p.n p.fr p.bl (k : Int) = true) (hk : k ∈ ring) : Calls Try.prog 53 #[.pointer (some ⟨cb, 0, none⟩), .int .i64 (k : Int)] w (BlkPost cb j hb size ring X k (readS S f k) w) := by
  have hrd := read_ok hJ hyes
  have h60 := h.home k hk
  obtain ⟨⟨p0, p1, p2, p3⟩, z0, z1, z2, z3⟩ := row4 h.row
  have hlk := fun q => (h.quiet q).map.look Try.underlying81 (Try.zeroValue84 _) (k := (k : Int)) (wf_i64 (by omega)) true
  rw [ptrM_in hk] at hlk
  simp only [Option.getD_some, Option.isSome_some, if_true] at hlk
  have hend : ∀ q, BlkPost cb j hb size ring X k (readS S f k) w (.returned (.tuple #[.pointer (some ⟨(X k).blk, 0, none⟩), .int .i64 0])) ((w.drewN q).setCell ⟨(X k).blk, 3, none⟩ (.bool true)) := fun q => by
    have hrow := (h.quiet q).held k hk
    refine ⟨v, ring, updX X k { X k with seen := true }, (h.quiet q).turn hk (x := { X k with seen := true }) rfl (set_blk hrow 3 (.bool true)) (kp_set1 _ _ _ _), (((Tch.refl w).drewN q)).trans (Kp.imp (kp_set1 (w.drewN q) (X k).blk 3 (.bool true)) fun i hi => by rw [hi]; exact (h.quiet q).tag_blk hk), .inl ⟨by rw [updX_same], hk, fun l hl hn => ⟨hl, ?_⟩, fun _ => ?_, fun e => absurd hk e, fun l hl e => absurd hl e⟩⟩
    · unfold Alike
      rw [updX_other hn]
      exact ⟨rfl, rfl, rfl, rfl⟩
    · unfold Alike
      rw [updX_same]
      exact ⟨rfl, rfl, rfl, rfl⟩
  have hhel := fun q => row4 ((h.quiet q).held k hk)
  go_enter Try.func53, Try.ntmps53
  go_wp2_with (go_at_call 14; refine Calls.mono hrd ?_; rintro e w1 ⟨rfl, q, rfl⟩; have hlk2 := hlk q; have hend2 := hend q; obtain ⟨⟨l0, l1, l2, l3⟩, m0, m1, m2, m3⟩ := hhel q; clear hlk hend hhel)
  go_ret2
  exact hend2
set_option maxHeartbeats 1000000 in
set_option maxRecDepth 100000 in
theorem cblock_out {k : Nat} (h : CAt w cb j hb size v ring X) (hJ : JW p w j d mb ib f false cut left writes false S m) (hyes : homeB p.n p.fr p.bl (k : Int) = true) (h60 : 60 ≤ k ∧ k < 200) (hk : k ∉ ring) : Calls Try.prog 53 #[.pointer (some ⟨cb, 0, none⟩), .int .i64 (k : Int)] w (BlkPost cb j hb size ring X k (readS S f k) w) := by
  have hrd := read_ok hJ hyes
  generalize readS S f k = s at *
  obtain ⟨⟨p0, p1, p2, p3⟩, z0, z1, z2, z3⟩ := row4 h.row
  have hlk := fun q => (h.quiet q).map.look Try.underlying81 (Try.zeroValue84 _) (k := (k : Int)) (wf_i64 (by omega)) true
  rw [ptrM_out hk] at hlk
  simp only [Option.getD_none, Option.isSome_none, if_true] at hlk
  have hroom := fun q => room_any (h.quiet q)
  go_enter Try.func53, Try.ntmps53
  go_wp2_with (go_at_call 14; refine Calls.mono hrd ?_; rintro e w1 ⟨rfl, q, rfl⟩; have hlk2 := hlk q; have hroom2 := hroom q; have hT0 := (Tch.refl (cb := cb) (hb := hb) w).drewN q; clear hlk hroom)
  go_at_call 66
  refine Calls.mono hroom2 ?_
  rintro e w2 ⟨c, v2, ring2, X2, rfl, hC2, hF, hT, hway⟩
  clear hroom2
  have hT2 := hT0.trans hT
  rcases hway with ⟨rfl, hlt⟩ | ⟨rfl, hl, hall⟩
  · have hk2 : k ∉ ring2 := fun e => hk (hF.1 k e).1
    obtain ⟨w4, hup, hrow4, v', w6, hrun, hrow6, hC3, hT3⟩ := hC2.add hk2 h60 hlt s
    obtain ⟨ao3, c3, rfl⟩ := hC3.rng.shape
    have hend : BlkPost cb j hb size ring X k s w (.returned (.tuple #[.pointer (some ⟨w2.heap.size, 0, none⟩), .int .i64 0])) (w6.setCell ⟨cb, 3, none⟩ (.slice ao3 (ring2 ++ [k]).length c3)) := by
      refine ⟨_, ring2 ++ [k], _, hC3, hT2.trans hT3, .inl ⟨by rw [updX_same], by simp, fun l hl hn => ?_, fun e => absurd e hk, fun _ => by rw [updX_same]; exact ⟨rfl, rfl, rfl⟩, fun l hl hn => hF.2 l hl fun e => hn (by simp [e])⟩⟩
      have hl2 : l ∈ ring2 := by
        rcases List.mem_append.1 hl with e | e
        · exact e
        · exact absurd (List.mem_singleton.1 e) hn
      unfold Alike
      rw [updX_other hn]
      exact hF.1 l hl2
    simp only [List.length_append, List.length_singleton] at hend
    have hrow3 := row4 ((heap_alloc_old w2 (.cells #[.string s, .bool false, .int .i64 0, .bool false] 88) (blk_lt hC2.row)).trans hC2.row)
    obtain ⟨⟨q0, q1, q2, q3⟩, y0, y1, y2, y3⟩ := hrow3
    obtain ⟨⟨r0, r1, r2, r3⟩, x0, x1, x2, x3⟩ := row4 hrow4
    obtain ⟨⟨s0, s1, s2, s3⟩, t0, t1, t2, t3⟩ := row4 hrow6
    obtain ⟨ao, cc, rfl⟩ := hC2.rng.shape
    clear hC2 hC3 hT3 hrow4 hrow6
    go_wp2_with (at_builtin; refine wpList_append_run rfl (.tmp 58) (.tmp 60) 63 rfl 63 rfl rfl rfl hrun ?_)
    go_ret2
    exact hend
  · go_wp2
    go_ret2
    exact ⟨v2, ring2, X2, hC2, hT2, .inr ⟨rfl, hk, hl, hall, hF⟩⟩
end
end
section
open Go.RowKit Go.Maps Go.Lib
section
variable {p : Pl} {w : World} {cb j hb size d mb ib : Nat} {v : Value} {ring ring' : List Nat} {X X' : Nat → Hb} {f : Nat → List Nat} {cut : Bool} {left writes : Int} {S : Int → Option ByteArray} {m k : Nat} {D : Nat → Option ByteArray} {P : Nat → Nat} {R : Nat → ByteArray}
structure CSt (ring : List Nat) (X : Nat → Hb) (D : Nat → Option ByteArray) (P : Nat → Nat) (R : Nat → ByteArray) : Prop where
  pins : ∀ l ∈ ring, (X l).pins = P l
  dirty : ∀ l ∈ ring, (X l).dirty = true → D l = some (X l).data
  clean : ∀ l ∈ ring, (X l).dirty = false → D l = none ∧ (X l).data = R l
  out : ∀ l, l ∉ ring → D l = none ∧ P l = 0
theorem need_not {x : Hb} (h : x.need = false) : x.dirty = false ∧ x.pins = 0 := by
  simp [Hb.need] at h
  exact h
theorem CSt.gone (h : CSt ring X D P R) {l : Nat} (hl : l ∈ ring → (X l).need = false) : D l = none ∧ P l = 0 := by
  by_cases hm : l ∈ ring
  · obtain ⟨h1, h2⟩ := need_not (hl hm)
    exact ⟨(h.clean l hm h1).1, by rw [← h.pins l hm, h2]⟩
  · exact h.out l hm
theorem CSt.alike (h : CSt ring X D P R) {l : Nat} (hl : l ∈ ring) (ha : Alike X X' l) : (X' l).pins = P l ∧ ((X' l).dirty = true → D l = some (X' l).data) ∧ ((X' l).dirty = false → D l = none ∧ (X' l).data = R l) := by
  obtain ⟨_, h1, h2, h3⟩ := ha
  rw [h1, h2, h3]
  exact ⟨h.pins l hl, h.dirty l hl, h.clean l hl⟩
theorem CSt.fewer (h : CSt ring X D P R) (hF : Fewer ring X ring' X') : CSt ring' X' D P R :=
  ⟨fun l hl => (h.alike (hF.1 l hl).1 (hF.1 l hl).2).1, fun l hl => (h.alike (hF.1 l hl).1 (hF.1 l hl).2).2.1, fun l hl => (h.alike (hF.1 l hl).1 (hF.1 l hl).2).2.2, fun l hl => h.gone fun hm => hF.2 l hm hl⟩
theorem CSt.got (h : CSt ring X D P R) (hG : Got ring X k (R k) ring' X') : CSt ring' X' D P R := by
  have key : ∀ l ∈ ring', (X' l).pins = P l ∧ ((X' l).dirty = true → D l = some (X' l).data) ∧ ((X' l).dirty = false → D l = none ∧ (X' l).data = R l) := fun l hl => by
    by_cases e : l = k
    · subst e
      by_cases hm : l ∈ ring
      · exact h.alike hm (hG.2.1 hm)
      · obtain ⟨h1, h2, h3⟩ := hG.2.2.1 hm
        obtain ⟨h4, h5⟩ := h.out l hm
        rw [h1, h2, h3]
        exact ⟨h5.symm, (fun e => by cases e), fun _ => ⟨h4, rfl⟩⟩
    · exact h.alike (hG.1 l hl e).1 (hG.1 l hl e).2
  exact ⟨fun l hl => (key l hl).1, fun l hl => (key l hl).2.1, fun l hl => (key l hl).2.2, fun l hl => h.gone fun hm => hG.2.2.2 l hm hl⟩
/-- block -/
def BlkS (cb j hb size : Nat) (D : Nat → Option ByteArray) (P : Nat → Nat) (R : Nat → ByteArray) (k : Nat) (w : World) (e : Ending) (w' : World) : Prop :=
  ∃ v ring X, CAt w' cb j hb size v ring X ∧ CSt ring X D P R ∧ Tch cb hb w w' ∧ ((e = .returned (.tuple #[.pointer (some ⟨(X k).blk, 0, none⟩), .int .i64 0]) ∧ k ∈ ring) ∨ (e = .returned (.tuple #[.pointer none, .int .i64 801]) ∧ k ∉ ring ∧ ring.length = size ∧ ∀ l ∈ ring, (X l).need = true))
theorem cblock_any (h : CAt w cb j hb size v ring X) (hS : CSt ring X D P R) (hJ : JW p w j d mb ib f false cut left writes false S m) (hR : R k = readS S f k) (hyes : homeB p.n p.fr p.bl (k : Int) = true) (h60 : 60 ≤ k ∧ k < 200) : Calls Try.prog 53 #[.pointer (some ⟨cb, 0, none⟩), .int .i64 (k : Int)] w (BlkS cb j hb size D P R k w) := by
  have hend : ∀ e w', BlkPost cb j hb size ring X k (readS S f k) w e w' → BlkS cb j hb size D P R k w e w' := by
    rintro e w' ⟨v', ring', X', hC, hT, ⟨he, hk, hG⟩ | ⟨he, hk, hl, hall, hF⟩⟩
    · rw [← hR] at hG
      exact ⟨v', ring', X', hC, hS.got hG, hT, .inl ⟨he, hk⟩⟩
    · exact ⟨v', ring', X', hC, hS.fewer hF, hT, .inr ⟨he, fun e => hk (hF.1 k e).1, hl, hall⟩⟩
  by_cases hk : k ∈ ring
  · exact (cblock_in h hJ hyes hk).mono hend
  · exact (cblock_out h hJ hyes h60 hk).mono hend
end
end
section
open Go.RowKit Go.Maps Go.Lib
section
variable {p : Pl} {w : World} {cb j hb size d mb ib : Nat} {v : Value} {ring ring' : List Nat} {X X' : Nat → Hb} {f : Nat → List Nat} {cut : Bool} {left writes : Int} {S : Int → Option ByteArray} {m k : Nat} {D : Nat → Option ByteArray} {P : Nat → Nat} {R : Nat → ByteArray} {at_ : Int}
theorem CSt.data (h : CSt ring X D P R) (hk : k ∈ ring) : (X k).data = (D k).getD (R k) := by
  cases hd : (X k).dirty with
  | true => rw [h.dirty k hk hd]; rfl
  | false => rw [(h.clean k hk hd).1, (h.clean k hk hd).2]; rfl
/-- all places are needed -/
def Full (size : Nat) (ring : List Nat) (X : Nat → Hb) (k : Nat) : Prop := k ∉ ring ∧ ring.length = size ∧ ∀ l ∈ ring, (X l).need = true
def CReadS (cb j hb size : Nat) (D : Nat → Option ByteArray) (P : Nat → Nat) (R : Nat → ByteArray) (k : Nat) (w : World) (e : Ending) (w' : World) : Prop :=
  ∃ v ring X, CAt w' cb j hb size v ring X ∧ CSt ring X D P R ∧ Tch cb hb w w' ∧ ((e = .returned (.tuple #[.string ((D k).getD (R k)), .int .i64 0]) ∧ k ∈ ring) ∨ (e = .returned (.tuple #[.string ByteArray.empty, .int .i64 801]) ∧ Full size ring X k))
theorem cread_no (h : CAt w cb j hb size v ring X) (hJ : JW p w j d mb ib f false cut left writes false S m) (hno : homeB p.n p.fr p.bl at_ = false) : Calls Try.prog 46 #[.pointer (some ⟨cb, 0, none⟩), .int .i64 at_] w (QText ByteArray.empty 703 w) := by
  have hbk := cblock_no h hJ hno
  go_enter Try.func46, Try.ntmps46
  go_wp2_with (go_at_call 53; refine Calls.mono hbk ?_; rintro e w1 ⟨rfl, q, rfl⟩)
  go_ret2
  exact ⟨rfl, _, rfl⟩
theorem cread_any (h : CAt w cb j hb size v ring X) (hS : CSt ring X D P R) (hJ : JW p w j d mb ib f false cut left writes false S m) (hR : R k = readS S f k) (hyes : homeB p.n p.fr p.bl (k : Int) = true) (h60 : 60 ≤ k ∧ k < 200) : Calls Try.prog 46 #[.pointer (some ⟨cb, 0, none⟩), .int .i64 (k : Int)] w (CReadS cb j hb size D P R k w) := by
  have hbk := cblock_any h hS hJ hR hyes h60
  clear hR
  go_enter Try.func46, Try.ntmps46
  go_wp2_with (fail)
  go_at_call 53
  refine Calls.mono hbk ?_
  rintro e w2 ⟨v2, ring2, X2, hC, hS2, hT, ⟨rfl, hk⟩ | ⟨rfl, hfull⟩⟩
  · have hrow : w2.heap[(X2 k).blk]? = some (.cells #[.string (X2 k).data, .bool (X2 k).dirty, .int .i64 ((X2 k).pins : Int), .bool (X2 k).seen] 88) := hC.held k hk
    obtain ⟨⟨l0, l1, l2, l3⟩, m0, m1, m2, m3⟩ := row4 hrow
    rw [hS2.data hk] at l0
    go_wp2
    go_ret2
    exact ⟨v2, ring2, X2, hC, hS2, hT, .inl ⟨rfl, hk⟩⟩
  · go_wp2
    go_ret2
    exact ⟨v2, ring2, X2, hC, hS2, hT, .inr ⟨rfl, hfull⟩⟩
/-- pins -/
def putP (P : Nat → Nat) (k n : Nat) : Nat → Nat := fun i => if i = k then n else P i
theorem CSt.pin (h : CSt ring X D P R) (hk : k ∈ ring) (n : Nat) : CSt ring (updX X k { X k with pins := n }) D (putP P k n) R := by
  refine ⟨fun l hl => ?_, fun l hl => ?_, fun l hl => ?_, fun l hl => ?_⟩
  · by_cases e : l = k
    · subst e; rw [updX_same]; simp [putP]
    · rw [updX_other e]; simp [putP, e]; exact h.pins l hl
  · by_cases e : l = k
    · subst e; rw [updX_same]; exact h.dirty l hl
    · rw [updX_other e]; exact h.dirty l hl
  · by_cases e : l = k
    · subst e; rw [updX_same]; exact h.clean l hl
    · rw [updX_other e]; exact h.clean l hl
  · have e : l ≠ k := fun e => hl (e ▸ hk)
    simp only [putP, e, if_false]
    exact h.out l hl
def CPinS (cb j hb size : Nat) (D : Nat → Option ByteArray) (P : Nat → Nat) (R : Nat → ByteArray) (k : Nat) (w : World) (e : Ending) (w' : World) : Prop :=
  ∃ v ring X P', CAt w' cb j hb size v ring X ∧ CSt ring X D P' R ∧ Tch cb hb w w' ∧ ((e = .returned (.int .i64 0) ∧ k ∈ ring ∧ P' = putP P k (P k + 1)) ∨ (e = .returned (.int .i64 801) ∧ Full size ring X k ∧ P' = P))
theorem cpin_no (h : CAt w cb j hb size v ring X) (hJ : JW p w j d mb ib f false cut left writes false S m) (hno : homeB p.n p.fr p.bl at_ = false) : Calls Try.prog 48 #[.pointer (some ⟨cb, 0, none⟩), .int .i64 at_] w (QInt 703 w) := by
  have hbk := cblock_no h hJ hno
  go_enter Try.func48, Try.ntmps48
  go_wp2_with (go_at_call 53; refine Calls.mono hbk ?_; rintro e w1 ⟨rfl, q, rfl⟩)
  go_ret
  exact ⟨rfl, _, rfl⟩
theorem cpin_any (h : CAt w cb j hb size v ring X) (hS : CSt ring X D P R) (hJ : JW p w j d mb ib f false cut left writes false S m) (hR : R k = readS S f k) (hyes : homeB p.n p.fr p.bl (k : Int) = true) (h60 : 60 ≤ k ∧ k < 200) (hP : P k ≤ 100000) : Calls Try.prog 48 #[.pointer (some ⟨cb, 0, none⟩), .int .i64 (k : Int)] w (CPinS cb j hb size D P R k w) := by
  have hbk := cblock_any h hS hJ hR hyes h60
  clear hR
  go_enter Try.func48, Try.ntmps48
  go_wp2_with (fail)
  go_at_call 53
  refine Calls.mono hbk ?_
  rintro e w2 ⟨v2, ring2, X2, hC, hS2, hT, ⟨rfl, hk⟩ | ⟨rfl, hfull⟩⟩
  · have hrow : w2.heap[(X2 k).blk]? = some (.cells #[.string (X2 k).data, .bool (X2 k).dirty, .int .i64 ((X2 k).pins : Int), .bool (X2 k).seen] 88) := hC.held k hk
    obtain ⟨⟨l0, l1, l2, l3⟩, m0, m1, m2, m3⟩ := row4 hrow
    have hpk := hS2.pins k hk
    have e1 : IntKind.i64.wrap (((X2 k).pins : Int) + 1) = ((X2 k).pins : Int) + 1 := IntWalk.i64_in _ (by omega)
    have hend : CPinS cb j hb size D P R k w (.returned (.int .i64 0)) (w2.setCell ⟨(X2 k).blk, 2, none⟩ (.int .i64 (((X2 k).pins : Int) + 1))) :=
      ⟨v2, ring2, _, _, hC.turn hk (x := { X2 k with pins := (X2 k).pins + 1 }) rfl (set_blk hrow 2 (.int .i64 (((X2 k).pins : Int) + 1))) (kp_set1 _ _ _ _), hS2.pin hk ((X2 k).pins + 1), hT.trans (Kp.imp (kp_set1 w2 (X2 k).blk 2 _) fun i hi => by rw [hi]; exact hC.tag_blk hk), .inl ⟨rfl, hk, by rw [hpk]⟩⟩
    clear hpk hbk
    go_wp2
    go_ret
    exact hend
  · go_wp2
    go_ret
    exact ⟨v2, ring2, X2, P, hC, hS2, hT, .inr ⟨rfl, hfull, rfl⟩⟩
end
end
section
open Go.RowKit Go.Maps Go.Lib
section
variable {p : Pl} {w : World} {cb j hb size d mb ib : Nat} {v : Value} {ring ring' : List Nat} {X X' : Nat → Hb} {f : Nat → List Nat} {cut : Bool} {left writes : Int} {S : Int → Option ByteArray} {m k : Nat} {D : Nat → Option ByteArray} {P : Nat → Nat} {R : Nat → ByteArray} {at_ : Int}
def putD (D : Nat → Option ByteArray) (k : Nat) (s : ByteArray) : Nat → Option ByteArray := fun i => if i = k then some s else D i
theorem CSt.write (h : CSt ring X D P R) (hk : k ∈ ring) (s : ByteArray) : CSt ring (updX X k { X k with data := s, dirty := true }) (putD D k s) P R := by
  refine ⟨fun l hl => ?_, fun l hl => ?_, fun l hl => ?_, fun l hl => ?_⟩
  · by_cases e : l = k
    · subst e; rw [updX_same]; exact h.pins l hl
    · rw [updX_other e]; exact h.pins l hl
  · by_cases e : l = k
    · subst e; rw [updX_same]; simp [putD]
    · rw [updX_other e]; simp only [putD, e, if_false]; exact h.dirty l hl
  · by_cases e : l = k
    · subst e; rw [updX_same]; intro e; cases e
    · rw [updX_other e]; simp only [putD, e, if_false]; exact h.clean l hl
  · have e : l ≠ k := fun e => hl (e ▸ hk)
    simp only [putD, e, if_false]
    exact h.out l hl
def CWriteS (cb j hb size : Nat) (D : Nat → Option ByteArray) (P : Nat → Nat) (R : Nat → ByteArray) (k : Nat) (s : ByteArray) (w : World) (e : Ending) (w' : World) : Prop :=
  ∃ v ring X D', CAt w' cb j hb size v ring X ∧ CSt ring X D' P R ∧ Tch cb hb w w' ∧ ((e = .returned (.int .i64 0) ∧ k ∈ ring ∧ D' = putD D k s) ∨ (e = .returned (.int .i64 801) ∧ Full size ring X k ∧ D' = D))
theorem cwrite_no (h : CAt w cb j hb size v ring X) (hJ : JW p w j d mb ib f false cut left writes false S m) (hno : homeB p.n p.fr p.bl at_ = false) (s : ByteArray) : Calls Try.prog 26 #[.pointer (some ⟨cb, 0, none⟩), .int .i64 at_, .string s] w (QInt 703 w) := by
  have hrd := read_no hJ hno
  obtain ⟨⟨p0, p1, p2, p3⟩, z0, z1, z2, z3⟩ := row4 h.row
  go_enter Try.func26, Try.ntmps26
  go_wp2_with (go_at_call 14; refine Calls.mono hrd ?_; rintro e w1 ⟨rfl, q, rfl⟩)
  go_ret
  exact ⟨rfl, _, rfl⟩
set_option maxHeartbeats 1000000 in
theorem cwrite_any (h : CAt w cb j hb size v ring X) (hS : CSt ring X D P R) (hJ : JW p w j d mb ib f false cut left writes false S m) (hR : R k = readS S f k) (hyes : homeB p.n p.fr p.bl (k : Int) = true) (h60 : 60 ≤ k ∧ k < 200) (s : ByteArray) (hs : s.size = 256) : Calls Try.prog 26 #[.pointer (some ⟨cb, 0, none⟩), .int .i64 (k : Int), .string s] w (CWriteS cb j hb size D P R k s w) := by
  have hrd := read_ok hJ hyes
  have hbk := fun q => cblock_any (h.quiet q) hS (hJ.quiet q) hR hyes h60
  clear hR
  generalize readS S f k = s0 at *
  have g1 : ((s.size : Int) != 256) = false := by rw [hs]; rfl
  obtain ⟨⟨p0, p1, p2, p3⟩, z0, z1, z2, z3⟩ := row4 h.row
  go_enter Try.func26, Try.ntmps26
  go_wp2_with (go_at_call 14; refine Calls.mono hrd ?_; rintro e w1 ⟨rfl, q, rfl⟩; have hbk2 := hbk q; have hT0 := (Tch.refl (cb := cb) (hb := hb) w).drewN q; clear hbk)
  go_at_call 53
  refine Calls.mono hbk2 ?_
  rintro e w2 ⟨v2, ring2, X2, hC, hS2, hT, ⟨rfl, hk⟩ | ⟨rfl, hfull⟩⟩
  · have hrow : w2.heap[(X2 k).blk]? = some (.cells #[.string (X2 k).data, .bool (X2 k).dirty, .int .i64 ((X2 k).pins : Int), .bool (X2 k).seen] 88) := hC.held k hk
    obtain ⟨⟨l0, l1, l2, l3⟩, m0, m1, m2, m3⟩ := row4 hrow
    have hrow1 : (w2.setCell ⟨(X2 k).blk, 0, none⟩ (.string s)).heap[(X2 k).blk]? = some (.cells #[.string s, .bool (X2 k).dirty, .int .i64 ((X2 k).pins : Int), .bool (X2 k).seen] 88) := set_blk hrow 0 (.string s)
    obtain ⟨⟨q0, q1, q2, q3⟩, y0, y1, y2, y3⟩ := row4 hrow1
    have hK : Kp (fun i => i = (X2 k).blk) w2 ((w2.setCell ⟨(X2 k).blk, 0, none⟩ (.string s)).setCell ⟨(X2 k).blk, 1, none⟩ (.bool true)) := (kp_set1 _ _ _ _).trans (kp_set1 _ _ _ _)
    have hend : CWriteS cb j hb size D P R k s w (.returned (.int .i64 0)) ((w2.setCell ⟨(X2 k).blk, 0, none⟩ (.string s)).setCell ⟨(X2 k).blk, 1, none⟩ (.bool true)) :=
      ⟨v2, ring2, _, _, hC.turn hk (x := { X2 k with data := s, dirty := true }) rfl (set_blk hrow1 1 (.bool true)) hK, hS2.write hk s, (hT0.trans hT).trans (Kp.imp hK fun i hi => by rw [hi]; exact hC.tag_blk hk), .inl ⟨rfl, hk, rfl⟩⟩
    clear hbk2
    go_wp2
    go_ret
    exact hend
  · go_wp2
    go_ret
    exact ⟨v2, ring2, X2, D, hC, hS2, hT0.trans hT, .inr ⟨rfl, hfull, rfl⟩⟩
def CUnpinS (cb j hb size : Nat) (ring : List Nat) (D : Nat → Option ByteArray) (P : Nat → Nat) (R : Nat → ByteArray) (k : Nat) (v : Value) (w : World) (e : Ending) (w' : World) : Prop :=
  ∃ X P', CAt w' cb j hb size v ring X ∧ CSt ring X D P' R ∧ Tch cb hb w w' ∧ ((e = .returned (.int .i64 0) ∧ 0 < P k ∧ P' = putP P k (P k - 1)) ∨ (e = .returned (.int .i64 802) ∧ P k = 0 ∧ P' = P))
theorem cunpin_no (h : CAt w cb j hb size v ring X) (hno : ¬ (0 ≤ at_ ∧ at_.toNat ∈ ring)) (hw : (Lit.int .i64 at_).wf = true) : Calls Try.prog 49 #[.pointer (some ⟨cb, 0, none⟩), .int .i64 at_] w (IntPost 802 w) := by
  obtain ⟨⟨p0, p1, p2, p3⟩, z0, z1, z2, z3⟩ := row4 h.row
  have hlk := h.map.look Try.underlying81 (Try.zeroValue84 _) hw false
  rw [ptrM_far hno] at hlk
  simp only [Option.getD_none, Bool.false_eq_true, if_false] at hlk
  go_enter Try.func49, Try.ntmps49
  go_wp2
  go_ret
  exact ⟨rfl, rfl⟩
set_option maxHeartbeats 1000000 in
theorem cunpin_any (h : CAt w cb j hb size v ring X) (hS : CSt ring X D P R) (hk : k ∈ ring) (hP : P k ≤ 100000) : Calls Try.prog 49 #[.pointer (some ⟨cb, 0, none⟩), .int .i64 (k : Int)] w (CUnpinS cb j hb size ring D P R k v w) := by
  have h60 := h.home k hk
  obtain ⟨⟨p0, p1, p2, p3⟩, z0, z1, z2, z3⟩ := row4 h.row
  have hlk := h.map.look Try.underlying81 (Try.zeroValue84 _) (k := (k : Int)) (wf_i64 (by omega)) false
  rw [ptrM_in hk] at hlk
  simp only [Option.getD_some, Bool.false_eq_true, if_false] at hlk
  have hrow : w.heap[(X k).blk]? = some (.cells #[.string (X k).data, .bool (X k).dirty, .int .i64 ((X k).pins : Int), .bool (X k).seen] 88) := h.held k hk
  have hpk := hS.pins k hk
  obtain ⟨⟨l0, l1, l2, l3⟩, m0, m1, m2, m3⟩ := row4 hrow
  by_cases h0 : P k = 0
  · rw [hpk, h0] at l2
    clear hpk
    go_enter Try.func49, Try.ntmps49
    go_wp2
    go_ret
    exact ⟨X, P, h, hS, Tch.refl w, .inr ⟨rfl, h0, rfl⟩⟩
  · have hend : CUnpinS cb j hb size ring D P R k v w (.returned (.int .i64 0)) (w.setCell ⟨(X k).blk, 2, none⟩ (.int .i64 ((P k - 1 : Nat) : Int))) :=
      ⟨_, _, h.turn hk (x := { X k with pins := P k - 1 }) rfl (set_blk hrow 2 (.int .i64 ((P k - 1 : Nat) : Int))) (kp_set1 _ _ _ _), hS.pin hk (P k - 1), Kp.imp (kp_set1 w (X k).blk 2 _) fun i hi => (by rw [hi]; exact h.tag_blk hk), .inl ⟨rfl, by omega, rfl⟩⟩
    rw [hpk] at l2
    clear hpk
    have g1 : ((P k : Int) == 0) = false := by simp; omega
    have e1 : IntKind.i64.wrap ((P k : Int) - 1) = ((P k - 1 : Nat) : Int) := by rw [IntWalk.i64_in _ (by omega)]; omega
    clear h0
    go_enter Try.func49, Try.ntmps49
    go_wp2
    go_ret
    exact hend
end
end
section
open Go.RowKit Go.Maps Go.Lib
section
variable {w : World} {cb j hb size : Nat} {v : Value} {ring : List Nat} {X : Nat → Hb}
def DirtyRel (X : Nat → Hb) (ks : List Nat) (w : World) (o : Value) (k : Nat) (wr : World) : Prop :=
  k ≤ ks.length ∧ RingAt wr o ((ks.take k).filter fun l => (X l).dirty) ∧ Kp (fun _ => False) w wr ∧ ∀ b, ringB o = some b → w.heap.size ≤ b
def DirtyPost (ring : List Nat) (X : Nat → Hb) (w : World) (e : Ending) (w' : World) : Prop :=
  ∃ o ds, e = .returned o ∧ RingAt w' o ds ∧ ds.Pairwise (· < ·) ∧ (∀ l, l ∈ ds ↔ l ∈ ring ∧ (X l).dirty = true) ∧ Kp (fun _ => False) w w' ∧ ∀ b, ringB o = some b → w.heap.size ≤ b
theorem dirty_next {X : Nat → Hb} {ks : List Nat} {k x : Nat} (hx : ks[k]? = some x) : (ks.take (k + 1)).filter (fun l => (X l).dirty) = if (X x).dirty then (ks.take k).filter (fun l => (X l).dirty) ++ [x] else (ks.take k).filter fun l => (X l).dirty := by
  obtain ⟨hk, rfl⟩ := List.getElem?_eq_some_iff.1 hx
  rw [List.take_succ_eq_append_getElem hk, List.filter_append]
  split <;> rename_i h <;> simp [h]
/-- one more -/
theorem DirtyRel.app {ks : List Nat} {o : Value} {k x : Nat} {wr : World} (h : DirtyRel X ks w o k wr) (hx : ks[k]? = some x) (hd : (X x).dirty = true) (hl : ks.length ≤ 2000) : ∃ o' w', (Builtin.append_ #[63, 63] 63 #[o, .slice (some ⟨wr.heap.size, 0, none⟩) 1 1]).run Try.prog (wr.alloc (.cells #[.int .i64 (x : Int)] 3)) = .ok o' w' ∧ DirtyRel X ks w o' (k + 1) w' := by
  obtain ⟨h1, h2, h3, h4⟩ := h
  have hK1 := kp_alloc (fun _ => False) wr (.cells #[.int .i64 (x : Int)] 3)
  have hlen : ((ks.take k).filter fun l => (X l).dirty).length ≤ 10000 := by
    have := List.length_filter_le (fun l => (X l).dirty) (ks.take k)
    have := List.length_take_le k ks
    have : (ks.take k).length ≤ ks.length := by simp; omega
    omega
  obtain ⟨o', w', hrun, hR, hK, hblk, _⟩ := ring_app _ wr.heap.size o _ x (heap_alloc_new wr _) (h2.kp hK1 fun _ _ e => e) hlen
  have hsz := h3.size
  refine ⟨o', w', hrun, by have := (List.getElem?_eq_some_iff.1 hx).1; omega, ?_, ?_, fun b hb => ?_⟩
  · rw [dirty_next hx, if_pos hd]
    exact hR
  · have h5 : Kp (fun _ => False) w (wr.alloc (.cells #[.int .i64 (x : Int)] 3)) := h3.trans hK1
    refine ⟨hK.os.trans h5.os, hK.tape.trans h5.tape, hK.output.trans h5.output, Nat.le_trans h5.size hK.size, fun i hi _ => ?_⟩
    refine (hK.block i (Nat.lt_of_lt_of_le hi h5.size) fun e => ?_).trans (h5.block i hi fun e => e)
    have := h4 i e
    omega
  · rcases hblk with e | ⟨g, e, hg⟩
    · rw [e] at hb
      exact h4 b hb
    · rw [e] at hb
      cases hb
      simp at hg
      omega
set_option maxHeartbeats 1000000 in
set_option maxRecDepth 100000 in
theorem dirty_any (h : CAt w cb j hb size v ring X) : Calls Try.prog 51 #[.pointer (some ⟨cb, 0, none⟩)] w (DirtyPost ring X w) := by
  have hlim := h.lim
  have hcap := h.cap
  obtain ⟨⟨p0, p1, p2, p3⟩, z0, z1, z2, z3⟩ := row4 h.row
  have hkeys := keys65 hb w
  have hM1 := h.map.kp (kp_alloc (fun _ => False) w (.cells #[.map (some hb)] 81)) (fun e => e)
  have hsort := sorted73 (w := w.alloc (.cells #[.map (some hb)] 81)) (Bm := w.heap.size) (by simp) (cell_of (heap_alloc_new w _) 0 _ rfl) hM1 (fun k v hv => by
    unfold ptrM at hv
    split at hv
    · rename_i e; exact e.1
    · cases hv)
  go_enter Try.func51, Try.ntmps51
  go_wp2_with (first | (go_at_call 65; refine Calls.mono hkeys ?_; rintro e w1 ⟨rfl, rfl⟩) | (go_at_call 63; refine Calls.mono hsort ?_; rintro e w2 ⟨v2, ks, rfl, hsd, hmem, hkl, hI, hK2⟩; have hk2000 : ks.length ≤ 2000 := (by omega); clear hkl; obtain ⟨ao, c, rfl⟩ := hI.slice))
  have hK2' : Kp (fun _ => False) w w2 := (kp_alloc (fun _ => False) w (.cells #[.map (some hb)] 81)).trans hK2
  have hmem2 : ∀ k, k ∈ ks ↔ k ∈ ring := fun k => by
    rw [hmem]
    by_cases e : k ∈ ring
    · simp [ptrM_in e, e]
    · simp [ptrM_out e, e]
  have hlk81 : ∀ wr, Kp (fun _ => False) w wr → ∀ x ∈ ring, (Instr.lookup 81 (.map (some hb)) (.int .i64 (x : Int)) false).run Try.prog wr = .ok (.pointer (some ⟨(X x).blk, 0, none⟩)) wr := fun wr hK x hx => by
    have h60 := h.home x hx
    have := (h.map.kp hK fun e => e).look Try.underlying81 (Try.zeroValue84 _) (k := (x : Int)) (wf_i64 (by omega)) false
    rw [ptrM_in hx] at this
    exact this
  have hrel0 : DirtyRel X ks w2 (.slice none 0 0) 0 w2 := ⟨by omega, .inl ⟨rfl, rfl⟩, kp_refl _ _, fun b hb => by cases hb⟩
  clear hsort hkeys hM1 hmem
  go_loopw [3, 15] (fun o i wr => ∃ k : Nat, i = .int .i64 k ∧ DirtyRel X ks w2 o k wr) (fun _ i _ => ks.length - (RowKit.intOf i).toNat)
  case atStart => exact ⟨0, rfl, hrel0⟩
  case round =>
    obtain ⟨k, rfl, hr⟩ := hrel
    have hkp := hr.2.2.1
    have hkw := hK2'.trans hkp
    by_cases hlt : k < ks.length
    · have g3 : decide ((k : Int) < (ks.length : Int)) = true := by simp; omega
      obtain ⟨x, hxk⟩ : ∃ x, ks[k]? = some x := ⟨_, List.getElem?_eq_getElem hlt⟩
      have hx : x ∈ ring := (hmem2 x).1 (List.mem_of_getElem? hxk)
      have hnxt := dirty_next (X := X) hxk
      rcases hI with ⟨_, rfl⟩ | ⟨g, c', cur, e, h0, hg, hc⟩
      · simp at hlt
      simp only [Value.slice.injEq] at e
      obtain ⟨rfl, -, rfl⟩ := e
      have hcell : wr.cell? ⟨g, k, none⟩ = some (.int .i64 (x : Int)) := cell_of ((hkp.block g (blk_lt hg) fun e => e).trans hg) k _ ((hc k hlt).trans (intsC_get hxk))
      have hlk := hlk81 wr hkw x hx
      obtain ⟨⟨q0, q1, q2, q3⟩, y0, y1, y2, y3⟩ := row4 ((hkw.block cb (blk_lt h.row) fun e => e).trans h.row)
      have hrow : wr.heap[(X x).blk]? = some (.cells #[.string (X x).data, .bool (X x).dirty, .int .i64 ((X x).pins : Int), .bool (X x).seen] 88) := (hkw.block _ (blk_lt (h.held x hx)) fun e => e).trans (h.held x hx)
      obtain ⟨⟨l0, l1, l2, l3⟩, m0, m1, m2, m3⟩ := row4 hrow
      clear hlk81
      cases hd : (X x).dirty with
      | true =>
        obtain ⟨o', w', hrun, hr'⟩ := hr.app hxk hd (by omega)
        obtain ⟨ao, cc, rfl⟩ := hr.2.1.shape
        rw [hd] at l1
        have hend : DirtyRel X ks w2 o' (k + 1) w' := hr'
        clear hr hr' hnxt
        go_wp2_with (at_builtin; refine wpList_append_run rfl (.tmp 28) (.tmp 30) 63 rfl 63 rfl rfl rfl hrun ?_)
        exact ⟨⟨k + 1, by simp, hend⟩, by simp [RowKit.intOf]; omega⟩
      | false =>
        rw [hd] at l1
        have hend : DirtyRel X ks w2 _ (k + 1) wr := ⟨by omega, by rw [hnxt, if_neg (by simp [hd])]; exact hr.2.1, hr.2.2.1, hr.2.2.2⟩
        clear hr hnxt
        go_wp2
        exact ⟨⟨k + 1, by simp, hend⟩, by simp [RowKit.intOf]; omega⟩
    · have g3 : decide ((k : Int) < (ks.length : Int)) = false := by simp; omega
      obtain rfl : k = ks.length := by have := hr.1; omega
      clear hlk81
      go_wp2
      go_ret
      have hR := hr.2.1
      rw [List.take_length] at hR
      refine ⟨_, _, rfl, hR, hsd.filter _, fun l => ?_, hkw, fun b hb => Nat.le_trans hK2'.size (hr.2.2.2 b hb)⟩
      rw [List.mem_filter, hmem2]
end
end
section
open Go.RowKit Go.Maps Go.Lib
section
variable {p : Pl} {w : World} {cb j hb size d mb ib : Nat} {v : Value} {ring ring' : List Nat} {X X' : Nat → Hb} {f : Nat → List Nat} {off cut over : Bool} {left writes : Int} {S : Int → Option ByteArray} {m k : Nat} {D : Nat → Option ByteArray} {P : Nat → Nat} {R : Nat → ByteArray}
/-- the journal's blocks are none of the cache's -/
theorem CAt.far (h : CAt w cb j hb size v ring X) (hJ : JW p w j d mb ib f off cut left writes over S m) : ∀ l ∈ ring, (X l).blk ≠ j ∧ (X l).blk ≠ d ∧ (X l).blk ≠ mb ∧ (X l).blk ≠ ib := by
  intro l hl
  have h1 := h.held l hl
  have h2 := hJ.row
  have h3 := hJ.disk.row
  have h4 := hJ.disk.img
  obtain ⟨es, clock, h5, _⟩ := hJ.map
  unfold JAt at h2
  refine ⟨fun e => ?_, fun e => ?_, fun e => ?_, fun e => ?_⟩ <;> rw [e] at h1
  · rw [h2] at h1; simp at h1
  · rw [h3] at h1; simp at h1
  · rw [h5] at h1; simp at h1
  · rw [h4] at h1; simp at h1
/-- what the cache touches is none of the journal's -/
theorem Tch.jw {w' : World} (hT : Tch cb hb w w') (h : CAt w cb j hb size v ring X) (hJ : JW p w j d mb ib f off cut left writes over S m) (hn : mb ≠ hb) : JW p w' j d mb ib f off cut left writes over S m := by
  have h1 := h.row
  have h2 := hJ.row
  have h3 := hJ.disk.row
  have h4 := hJ.disk.img
  obtain ⟨es, clock, h5, _⟩ := hJ.map
  obtain ⟨es2, clock2, h6, _⟩ := h.map
  unfold JAt at h2
  refine hJ.kp hT ?_ ?_ ?_ ?_
  · rintro (e | e | ⟨_, cs, e | e⟩)
    · rw [e, h1] at h2; simp at h2
    · rw [e, h6] at h2; simp at h2
    · rw [h2] at e; simp at e
    · rw [h2] at e; simp at e
  · rintro (e | e | ⟨_, cs, e | e⟩)
    · rw [e, h1] at h3; simp at h3
    · rw [e, h6] at h3; simp at h3
    · rw [h3] at e; simp at e
    · rw [h3] at e; simp at e
  · rintro (e | e | ⟨_, cs, e | e⟩)
    · rw [e, h1] at h5; simp at h5
    · exact hn e
    · rw [h5] at e; simp at e
    · rw [h5] at e; simp at e
  · rintro (e | e | ⟨_, cs, e | e⟩)
    · rw [e, h1] at h4; simp at h4
    · rw [e, h6] at h4; simp at h4
    · rw [h4] at e; simp at e
    · rw [h4] at e; simp at e
end
end
section
open Go.RowKit Go.Maps Go.Lib
section
variable {w : World} {cb j hb size : Nat} {v : Value} {ring : List Nat} {X : Nat → Hb} {D : Nat → Option ByteArray} {P : Nat → Nat} {R : Nat → ByteArray}
def fgX (X : Nat → Hb) (R : Nat → ByteArray) (ds : List Nat) : Nat → Hb := fun l => if l ∈ ds then { X l with data := R l, dirty := false } else X l
theorem fgX_nil (X : Nat → Hb) (R : Nat → ByteArray) : fgX X R [] = X := by
  funext l
  simp [fgX]
theorem fgX_blk (X : Nat → Hb) (R : Nat → ByteArray) (ds : List Nat) (l : Nat) : (fgX X R ds l).blk = (X l).blk := by
  unfold fgX
  split <;> rfl
theorem fgX_next (X : Nat → Hb) (R : Nat → ByteArray) (ds : List Nat) (x : Nat) : fgX X R (ds ++ [x]) = updX (fgX X R ds) x { X x with data := R x, dirty := false } := by
  funext l
  unfold updX fgX
  by_cases e : l = x
  · subst e
    simp
  · simp [e]
/-- behind Forget nothing is dirty -/
theorem CSt.forget {ds : List Nat} (h : CSt ring X D P R) (hds : ∀ l, l ∈ ds ↔ l ∈ ring ∧ (X l).dirty = true) : CSt ring (fgX X R ds) (fun _ => none) P R := by
  have hd : ∀ l ∈ ring, (fgX X R ds l).dirty = false := fun l hl => by
    unfold fgX
    split
    · rfl
    · rename_i e
      cases h2 : (X l).dirty with
      | false => rfl
      | true => exact absurd ((hds l).2 ⟨hl, h2⟩) e
  refine ⟨fun l hl => ?_, fun l hl e => ?_, fun l hl _ => ⟨rfl, ?_⟩, fun l hl => ⟨rfl, (h.out l hl).2⟩⟩
  · have := h.pins l hl
    unfold fgX
    split <;> exact this
  · rw [hd l hl] at e
    cases e
  · unfold fgX
    split
    · rfl
    · rename_i e
      cases h2 : (X l).dirty with
      | false => exact (h.clean l hl h2).2
      | true => exact absurd ((hds l).2 ⟨hl, h2⟩) e
end
end
section
open Go.RowKit Go.Maps Go.Lib
section
variable {p : Pl} {w : World} {cb j hb size d mb ib : Nat} {v : Value} {ring : List Nat} {X : Nat → Hb} {f : Nat → List Nat} {cut : Bool} {left writes : Int} {S : Int → Option ByteArray} {m : Nat} {D : Nat → Option ByteArray} {P : Nat → Nat} {R : Nat → ByteArray}
/-- the blocks of what is held -/
def OnHeld (ring : List Nat) (X : Nat → Hb) (i : Nat) : Prop := ∃ l ∈ ring, i = (X l).blk
theorem CAt.onHeld_tag (h : CAt w cb j hb size v ring X) {w' : World} (hK : Kp (OnHeld ring X) w w') : Tch cb hb w w' := hK.imp fun i hi => by
  obtain ⟨l, hl, rfl⟩ := hi
  exact h.tag_blk hl
/-- two cells of a held block turned -/
theorem CAt.two (h : CAt w cb j hb size v ring X) {k : Nat} (hk : k ∈ ring) (s : ByteArray) : CAt ((w.setCell ⟨(X k).blk, 0, none⟩ (.string s)).setCell ⟨(X k).blk, 1, none⟩ (.bool false)) cb j hb size v ring (updX X k { X k with data := s, dirty := false }) :=
  h.turn hk (x := { X k with data := s, dirty := false }) rfl (set_blk (set_blk (h.held k hk) 0 (.string s)) 1 (.bool false)) ((kp_set1 _ _ _ _).trans (kp_set1 _ _ _ _))
theorem CAt.two' (h : CAt w cb j hb size v ring X) {k : Nat} (hk : k ∈ ring) (s : ByteArray) : CAt ((w.setCell ⟨(X k).blk, 1, none⟩ (.bool false)).setCell ⟨(X k).blk, 0, none⟩ (.string s)) cb j hb size v ring (updX X k { X k with data := s, dirty := false }) :=
  h.turn hk (x := { X k with data := s, dirty := false }) rfl (set_blk (set_blk (h.held k hk) 1 (.bool false)) 0 (.string s)) ((kp_set1 _ _ _ _).trans (kp_set1 _ _ _ _))
def FgRel (cb j hb size : Nat) (v : Value) (ring : List Nat) (X : Nat → Hb) (R : Nat → ByteArray) (ds : List Nat) (w : World) (k : Nat) (wr : World) : Prop :=
  CAt wr cb j hb size v ring (fgX X R (ds.take k)) ∧ Kp (OnHeld ring X) w wr
theorem FgRel.next {ds : List Nat} {k x : Nat} {wr w' : World} (h : FgRel cb j hb size v ring X R ds w k wr) (hxk : ds[k]? = some x) (hx : x ∈ ring) (hn : x ∉ ds.take k) (hC : CAt w' cb j hb size v ring (updX (fgX X R (ds.take k)) x { fgX X R (ds.take k) x with data := R x, dirty := false })) (hK : Kp (fun i => i = (X x).blk) wr w') : FgRel cb j hb size v ring X R ds w (k + 1) w' := by
  refine ⟨?_, h.2.trans (hK.imp fun i hi => ⟨x, hx, hi⟩)⟩
  obtain ⟨hk, rfl⟩ := List.getElem?_eq_some_iff.1 hxk
  rw [List.take_succ_eq_append_getElem hk, fgX_next]
  have e : fgX X R (ds.take k) ds[k] = X ds[k] := by
    unfold fgX
    rw [if_neg hn]
  rw [e] at hC
  exact hC
def ForgetPost (cb j hb size : Nat) (v : Value) (ring : List Nat) (X : Nat → Hb) (P : Nat → Nat) (R : Nat → ByteArray) (w : World) (e : Ending) (w' : World) : Prop :=
  ∃ X', e = .returned (.int .i64 0) ∧ CAt w' cb j hb size v ring X' ∧ CSt ring X' (fun _ => none) P R ∧ Kp (OnHeld ring X) w w'
set_option maxHeartbeats 1000000 in
set_option maxRecDepth 100000 in
theorem forget_any (h : CAt w cb j hb size v ring X) (hS : CSt ring X D P R) (hJ : JW p w j d mb ib f false cut left writes false S m) (hR : ∀ l ∈ ring, readS S f (l : Int) = R l) (hyes : ∀ l ∈ ring, homeB p.n p.fr p.bl (l : Int) = true) : Calls Try.prog 50 #[.pointer (some ⟨cb, 0, none⟩)] w (ForgetPost cb j hb size v ring X P R w) := by
  have hdirty := dirty_any h
  have hfar := h.far hJ
  have hheld := h.held
  go_enter Try.func50, Try.ntmps50
  go_wp2_with (go_at_call 51; refine Calls.mono hdirty ?_; rintro e w2 ⟨o, ds, rfl, hI, hsd, hmem, hK2, hnew⟩; obtain ⟨ao, c, rfl⟩ := hI.shape)
  have hK2' : Kp (OnHeld ring X) w w2 := hK2.imp fun _ e => e.elim
  have hnd : ds.Nodup := hsd.imp fun h => Nat.ne_of_lt h
  have hrel0 : FgRel cb j hb size v ring X R ds w 0 w2 := ⟨by rw [List.take_zero, fgX_nil]; exact h.same hK2, hK2'⟩
  have hlenb : ds.length ≤ 2000 := by
    have h1 := h.cap
    have h2 := h.lim
    have h3 := len_le ds ring hnd fun x hx => ((hmem x).1 hx).1
    omega
  have hst := hS.forget (ds := ds) hmem
  clear hdirty
  go_loopw [12] (fun i wr => ∃ k : Nat, i = .int .i64 k ∧ k ≤ ds.length ∧ FgRel cb j hb size v ring X R ds w k wr ∧ Kp (OnHeld ring X) w2 wr) (fun i _ => ds.length - (RowKit.intOf i).toNat)
  case atStart => exact ⟨0, rfl, by omega, hrel0, kp_refl _ _⟩
  case round =>
    obtain ⟨k, rfl, hk, hr, hKw⟩ := hrel
    have hC := hr.1
    by_cases hlt : k < ds.length
    · have g3 : decide ((k : Int) < (ds.length : Int)) = true := by simp; omega
      obtain ⟨x, hxk⟩ : ∃ x, ds[k]? = some x := ⟨_, List.getElem?_eq_getElem hlt⟩
      obtain ⟨hx, hxd⟩ := (hmem x).1 (List.mem_of_getElem? hxk)
      have hxn : x ∉ ds.take k := fun e => by
        obtain ⟨i, hi, ei⟩ := List.getElem_of_mem e
        obtain ⟨hk2, e2⟩ := List.getElem?_eq_some_iff.1 hxk
        rw [List.getElem_take] at ei
        have hik : i < k := by simp at hi; omega
        have := (List.getElem_inj hnd).1 (ei.trans e2.symm)
        omega
      have hIr : RingAt wr (.slice ao ds.length c) ds := hI.kp hKw fun b hb => by
        rintro ⟨l, hl, e⟩
        have := hnew b hb
        have := blk_lt (hheld l hl)
        omega
      rcases hIr with ⟨_, rfl⟩ | ⟨b, off, cap, cur, e, hbk, hbo, _, _, hget⟩
      · simp at hlt
      simp only [Value.slice.injEq] at e
      obtain ⟨rfl, -, rfl⟩ := e
      have hcell : wr.cell? ⟨b, off + k, none⟩ = some (.int .i64 (x : Int)) := cell_of hbk _ _ ((hget k hlt).trans (intsC_get hxk))
      obtain ⟨⟨q0, q1, q2, q3⟩, y0, y1, y2, y3⟩ := row4 hC.row
      have hJr : JW p wr j d mb ib f false cut left writes false S m := hJ.kp hr.2 (by rintro ⟨l, hl, e⟩; exact (hfar l hl).1 e.symm) (by rintro ⟨l, hl, e⟩; exact (hfar l hl).2.1 e.symm) (by rintro ⟨l, hl, e⟩; exact (hfar l hl).2.2.1 e.symm) (by rintro ⟨l, hl, e⟩; exact (hfar l hl).2.2.2 e.symm)
      have hrd := read_ok hJr (hyes x hx)
      rw [hR x hx] at hrd
      have h60 := h.home x hx
      go_wp2_with (go_at_call 14; refine Calls.mono hrd ?_; rintro e w3 ⟨rfl, q, rfl⟩)
      have hC3 := hC.quiet q
      have hK3 : Kp (OnHeld ring X) w (wr.drewN q) := hr.2.drewN q
      have hKw3 : Kp (OnHeld ring X) w2 (wr.drewN q) := hKw.drewN q
      have hr3 : FgRel cb j hb size v ring X R ds w k (wr.drewN q) := ⟨hC3, hK3⟩
      clear hr hC hKw hK3 hJr q0 q1 q2 q3 y0 y1 y2 y3
      generalize wr.drewN q = w4 at *
      have hblk : (fgX X R (ds.take k) x).blk = (X x).blk := fgX_blk X R _ x
      have hlk := (hC3.same ((kp_refl (fun _ => False) w4).drew)).map.look Try.underlying81 (Try.zeroValue84 _) (k := (x : Int)) (wf_i64 (by omega)) false
      rw [ptrM_in hx, hblk] at hlk
      simp only [Option.getD_some, Bool.false_eq_true, if_false] at hlk
      obtain ⟨⟨q0, q1, q2, q3⟩, y0, y1, y2, y3⟩ := row4 hC3.row
      have hrow := hC3.held x hx
      rw [hblk] at hrow
      obtain ⟨⟨l0, l1, l2, l3⟩, m0, m1, m2, m3⟩ := row4 (show w4.heap[(X x).blk]? = some (.cells #[_, _, _, _] 88) from hrow)
      have hK4 := (kp_refl (fun _ => False) w4).drew
      have hC4 := hC3.same hK4
      have hend : FgRel cb j hb size v ring X R ds w (k + 1) ((w4.drew.setCell ⟨(X x).blk, 0, none⟩ (.string (R x))).setCell ⟨(X x).blk, 1, none⟩ (.bool false)) := by
        refine FgRel.next ⟨hC4, hr3.2.trans (hK4.imp fun _ e => e.elim)⟩ hxk hx hxn ?_ ((kp_set1 _ _ _ _).trans (kp_set1 _ _ _ _))
        have := hC4.two hx (R x)
        rw [hblk] at this
        exact this
      have hKe : Kp (OnHeld ring X) w2 ((w4.drew.setCell ⟨(X x).blk, 0, none⟩ (.string (R x))).setCell ⟨(X x).blk, 1, none⟩ (.bool false)) := (hKw3.trans (hK4.imp fun _ e => e.elim)).trans (((kp_set1 _ _ _ _).trans (kp_set1 _ _ _ _)).imp fun i hi => ⟨x, hx, hi⟩)
      clear hC3 hC4 hr3 hKw3
      go_wp2
      go_still_tail 13, (by kernel_rfl)
      change wpList _ _ _ _ _ w4.drew
      go_wp2
      exact ⟨⟨k + 1, by simp, by omega, hend, hKe⟩, by simp [RowKit.intOf]; omega⟩
    · have g3 : decide ((k : Int) < (ds.length : Int)) = false := by simp; omega
      obtain rfl : k = ds.length := by omega
      go_wp2
      go_ret
      have hC2 := hr.1
      rw [List.take_length] at hC2
      exact ⟨_, rfl, hC2, hst, hr.2⟩
end
end
end Go.Proofs.Ytkcclaljhedmjaa

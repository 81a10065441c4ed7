/- JournalSteps: the law's state, step by step. No conditions. -/
import Derived.Test.YtkcclaljhedmjaaC6
import Derived.Deep.CutBlock
import Derived.Deep.CutRange
namespace Go.Proofs.Ytkcclaljhedmjaa
open Go.RowKit Go.Maps
/-- the law's state -/
structure PSt (B yb d ib hb : Nat) (cut c : Bool) (w : World) (j mb sb : Nat) (f : Nat → List Nat) (writes : Int) (S : Int → Option ByteArray) (m : Nat) (H : Int → Option ByteArray) (hm : Nat) : Prop where
  jx : JX p7 w j d mb ib f false cut writes false S m
  stg : Stg p7 S m
  rest : Rest p7 (headL []) f (hOf H)
  play : PlayAt w yb d j hb sb c
  home : MapAt w hb (strM H) hm
  stage : MapAt w sb (strM S) m
  ne : sb ≠ mb ∧ hb ≠ mb ∧ hb ≠ sb
  far : B ≤ yb ∧ B ≤ d ∧ B ≤ ib ∧ B ≤ hb ∧ B ≤ j ∧ B ≤ mb ∧ B ≤ sb
/-- the steps as they came in -/
def StepsAt (w : World) (a : Option Addr) (n c : Nat) : Prop := n ≤ c ∧ ∀ i, i < n → ∃ b o, a = some ⟨b, o, none⟩ ∧ b < w.heap.size ∧ ∃ k t u z : Int, (Lit.int .i64 k).wf = true ∧ (Lit.int .i64 t).wf = true ∧ (Lit.int .i64 u).wf = true ∧ (Lit.int .i64 z).wf = true ∧
  w.cell? ⟨b, o + i * 4, none⟩ = some (.int .i64 k) ∧ w.cell? ⟨b, o + i * 4 + 1, none⟩ = some (.int .i64 t) ∧ w.cell? ⟨b, o + i * 4 + 2, none⟩ = some (.int .i64 u) ∧ w.cell? ⟨b, o + i * 4 + 3, none⟩ = some (.int .i64 z)
def LawRel (w0 : World) (yb d ib hb : Nat) (i : Nat) (wr : World) : Prop :=
  i ≤ 120 ∧ Kp (fun _ => False) w0 wr ∧ ∃ j mb sb f writes S m H hm, PSt w0.heap.size yb d ib hb false false wr j mb sb f writes S m H hm ∧ hm ≤ 50 * i
section
variable {B yb d ib hb : Nat} {cut c : Bool} {w w' : World} {j mb sb : Nat} {f : Nat → List Nat} {writes : Int} {S : Int → Option ByteArray} {m : Nat} {H : Int → Option ByteArray} {hm : Nat}
theorem PSt.same (h : PSt B yb d ib hb cut c w j mb sb f writes S m H hm) (hK : Kp (fun _ => False) w w') : PSt B yb d ib hb cut c w' j mb sb f writes S m H hm :=
  ⟨h.jx.same hK, h.stg, h.rest, (hK.block yb (blk_lt h.play) (fun e => e)).trans h.play, h.home.kp hK (fun e => e), h.stage.kp hK (fun e => e), h.ne, h.far⟩
theorem PSt.size (h : PSt B yb d ib hb cut c w j mb sb f writes S m H hm) : yb < w.heap.size ∧ d < w.heap.size ∧ ib < w.heap.size ∧ hb < w.heap.size ∧ j < w.heap.size ∧ mb < w.heap.size ∧ sb < w.heap.size := by
  obtain ⟨left, hJ⟩ := h.jx
  exact ⟨blk_lt h.play, blk_lt hJ.disk.row, blk_lt hJ.disk.img, h.home.lt, blk_lt hJ.row, hJ.map.lt, h.stage.lt⟩
theorem PSt.staged (h : PSt B yb d ib hb cut c w j mb sb f writes S m H hm) : Calls Try.prog 19 #[.pointer (some ⟨j, 0, none⟩)] w (IntPost m w) := by
  obtain ⟨left, hJ⟩ := h.jx
  exact staged_any hJ
theorem PSt.homes (h : PSt B yb d ib hb cut c w j mb sb f writes S m H hm) : Calls Try.prog 9 #[.pointer (some ⟨yb, 0, none⟩)] w fun e w' => e = .returned (.bool true) ∧ Kp (fun _ => False) w w' := by
  refine (homes_any h.jx.dx h.play h.home).mono ?_
  rintro e w' ⟨β, rfl, hβ, hK⟩
  obtain rfl : β = true := hβ.2 h.rest.2
  exact ⟨rfl, hK⟩
end
/-- a guarded call, wanted -/
theorem step_call_g {P : Program} {ops : Array Oper} {o : Oper} {a : Act} {w : World} {K : Act → World → Prop} {Q : Exit → Act → World → Prop} {E : Prop}
    (hw : Region.wanted o (yielded ops a.tmps) = true) (f : Nat) (args : Array Value) (hx : (execOp a.eval o).run P w = .ok (.enter f args) w) (S : Ending → World → Prop) (hc : Calls P f args w S) (h : ∀ e w', S e w' → ∃ v, e = .returned v ∧ K (a.put o.dst v) w') :
    if Region.wanted o (yielded ops a.tmps) = true then Oper.wp P o a w K Q else E := by
  rw [if_pos hw]
  unfold Oper.wp
  rw [hx, Oper.upon_enter]
  refine hc.mono fun e w' hs => ?_
  obtain ⟨v, rfl, hk⟩ := h e w' hs
  exact hk
/-- any state of the law -/
def PAny (B yb d ib hb : Nat) (bnd : Nat) (w : World) : Prop := ∃ j mb sb f writes S m H hm, PSt B yb d ib hb false false w j mb sb f writes S m H hm ∧ hm ≤ bnd
def CPost (B yb d ib hb : Nat) (hm : Nat) (cut c : Bool) (w : World) (e : Ending) (w' : World) : Prop := ∃ f' cut' writes' j' mb' sb' H' hm', e = .returned (.bool true) ∧ PSt B yb d ib hb cut' c w' j' mb' sb' f' writes' (fun _ => none) 0 H' hm' ∧ (cut = false → cut' = false) ∧ Kp (fun k => B ≤ k) w w' ∧ hm' ≤ hm + 40
theorem PSt.commit {B yb d ib hb : Nat} {cut c : Bool} {w : World} {j mb sb : Nat} {f : Nat → List Nat} {writes : Int} {S : Int → Option ByteArray} {m : Nat} {H : Int → Option ByteArray} {hm : Nat} (h : PSt B yb d ib hb cut c w j mb sb f writes S m H hm) (hm9 : hm ≤ 90000) (n : Int) : Calls Try.prog 12 #[.pointer (some ⟨yb, 0, none⟩), .int .i64 n] w (CPost B yb d ib hb hm cut c w) := by
  have hf := h.stg.few
  refine (pcommit_any h.jx h.stg h.rest h.play h.home h.stage h.ne.1 h.ne.2.1 h.ne.2.2 hm9).mono ?_
  rintro e w' ⟨f', cut', writes', j', mb', sb', H', hm', rfl, hJ, hP, hH, hS, hR, hc, hK, hj, hmb, hsb, hmm, hne⟩
  obtain ⟨b1, b2, b3, b4, b5, b6, b7⟩ := h.far
  obtain ⟨q1, q2, q3, q4, q5, q6, q7⟩ := h.size
  obtain ⟨n1, n2, n3⟩ := h.ne
  refine ⟨f', cut', writes', j', mb', sb', H', hm', rfl, ⟨hJ, stg_none _, hR, hP, hH, hS, ⟨?_, ?_, ?_⟩, b1, b2, b3, b4, ?_, ?_, ?_⟩, hc, hK.imp (fun k e => ?_), by omega⟩
  · exact hne
  · rcases hmb with rfl | h <;> omega
  · omega
  · rcases hj with rfl | h <;> omega
  · rcases hmb with rfl | h <;> omega
  · omega
  · unfold Six at *
    rcases e with e | e | e | e | e | e <;> omega
def LawMid (w0 : World) (yb d ib hb i : Nat) (w : World) : Prop := Kp (fun _ => False) w0 w ∧ PAny w0.heap.size yb d ib hb (50 * (i + 1)) w
/-- the stage is a new map -/
theorem pst_stage {B yb d ib hb : Nat} {cut c : Bool} {w : World} {j mb sb : Nat} {f : Nat → List Nat} {writes : Int} {H : Int → Option ByteArray} {hm : Nat} (hJ : JX p7 w j d mb ib f false cut writes false (fun _ => none) 0) (hR : Rest p7 (headL []) f (hOf H)) (hy : PlayAt w yb d j hb sb c) (hH : MapAt w hb (strM H) hm) (hn : hb ≠ mb) (hB : B ≤ w.heap.size) (hf : B ≤ yb ∧ B ≤ d ∧ B ≤ ib ∧ B ≤ hb ∧ B ≤ j ∧ B ≤ mb) :
    PSt B yb d ib hb cut c (stageW w yb) j mb w.heap.size f writes (fun _ => none) 0 H hm := by
  obtain ⟨hp, hm', hK⟩ := stage_play hy
  obtain ⟨l, hJ0⟩ := hJ
  obtain ⟨b1, b2, b3, b4, b5, b6⟩ := hf
  have hml := hJ0.map.lt
  have hhl := hH.lt
  have n1 : yb ≠ d := by rintro rfl; have := hJ0.disk.row; rw [hy] at this; simp at this
  have n2 : yb ≠ ib := by rintro rfl; have := hJ0.disk.img; rw [hy] at this; simp at this
  have n3 : yb ≠ j := by rintro rfl; have := hJ0.row; unfold JAt at this; rw [hy] at this; simp at this
  have n4 : yb ≠ mb := by
    obtain ⟨es, clock, hbb, _⟩ := hJ0.map
    rintro rfl; have := hy; unfold PlayAt at this; rw [hbb] at this; cases this
  have n5 : yb ≠ hb := by
    obtain ⟨es, clock, hbb, _⟩ := hH
    rintro rfl; have := hy; unfold PlayAt at this; rw [hbb] at this; cases this
  exact ⟨JX.kp ⟨l, hJ0⟩ hK n3.symm n1.symm n4.symm n2.symm, stg_none _, hR, hp, hH.kp hK n5.symm, hm', ⟨by omega, hn, by omega⟩, b1, b2, b3, b4, b5, b6, hB⟩
section
variable {B yb d ib hb : Nat} {cut c : Bool} {w w' : World} {j mb sb : Nat} {f : Nat → List Nat} {writes : Int} {S : Int → Option ByteArray} {m : Nat} {H : Int → Option ByteArray} {hm : Nat}
theorem PSt.nes (h : PSt B yb d ib hb cut c w j mb sb f writes S m H hm) : yb ≠ d ∧ yb ≠ ib ∧ yb ≠ j ∧ yb ≠ mb ∧ yb ≠ hb ∧ yb ≠ sb ∧ hb ≠ d ∧ hb ≠ ib ∧ hb ≠ j ∧ sb ≠ d ∧ sb ≠ ib ∧ sb ≠ j := by
  obtain ⟨l, hJ0⟩ := h.jx
  have hy := h.play
  have hmp : ∀ b S' m', MapAt w b S' m' → b ≠ d ∧ b ≠ ib ∧ b ≠ j ∧ yb ≠ b := by
    intro b S' m' hM
    obtain ⟨es, clock, hbb, _⟩ := hM
    refine ⟨?_, ?_, ?_, ?_⟩
    · rintro rfl; have := hJ0.disk.row; rw [hbb] at this; cases this
    · rintro rfl; have := hJ0.disk.img; rw [hbb] at this; cases this
    · rintro rfl; have := hJ0.row; unfold JAt at this; rw [hbb] at this; cases this
    · rintro rfl; have := hy; unfold PlayAt at this; rw [hbb] at this; cases this
  obtain ⟨a1, a2, a3, a4⟩ := hmp _ _ _ h.home
  obtain ⟨b1, b2, b3, b4⟩ := hmp _ _ _ h.stage
  obtain ⟨c1, c2, c3, c4⟩ := hmp _ _ _ hJ0.map
  refine ⟨?_, ?_, ?_, c4, a4, b4, a1, a2, a3, b1, b2, b3⟩
  · rintro rfl; have := hJ0.disk.row; rw [hy] at this; simp at this
  · rintro rfl; have := hJ0.disk.img; rw [hy] at this; simp at this
  · rintro rfl; have := hJ0.row; unfold JAt at this; rw [hy] at this; simp at this
def DropL (B yb d ib hb : Nat) (c : Bool) (H : Int → Option ByteArray) (hm : Nat) (w : World) (e : Ending) (w' : World) : Prop :=
  e = .returned (.int .i64 0) ∧ (∃ j mb f writes, PSt B yb d ib hb false c (stageW w' yb) j mb w'.heap.size f writes (fun _ => none) 0 H hm) ∧ (∃ sb j, PlayAt w' yb d j hb sb c) ∧ Kp (fun k => B ≤ k) w w'
theorem PSt.drop (h : PSt B yb d ib hb false c w j mb sb f writes S m H hm) (hB : B ≤ w.heap.size) : Calls Try.prog 13 #[.pointer (some ⟨j, 0, none⟩)] w (DropL B yb d ib hb c H hm w) := by
  obtain ⟨l, hJ⟩ := h.jx
  obtain ⟨n1, n2, n3, n4, n5, n6, n7, n8, n9, _⟩ := h.nes
  obtain ⟨b1, b2, b3, b4, b5, b6, b7⟩ := h.far
  refine (drop_ok hJ).mono ?_
  rintro e w' ⟨rfl, hJ2, hK, hz⟩
  have hy2 : PlayAt w' yb d j hb sb c := (hK.block yb (blk_lt h.play) n4).trans h.play
  exact ⟨rfl, ⟨j, mb, f, writes, pst_stage ⟨l, hJ2⟩ h.rest hy2 (h.home.kp hK h.ne.2.1) h.ne.2.1 (by omega) ⟨b1, b2, b3, b4, b5, b6⟩⟩, ⟨_, _, hy2⟩, hK.imp fun k e => by omega⟩
theorem PSt.cuts (h : PSt B yb d ib hb cut c w j mb sb f writes S m H hm) (n : Int) (hn : 1 ≤ n) : Calls Try.prog 16 #[.pointer (some ⟨d, 0, none⟩), .int .i64 n] w fun e w' => e = .returned (.int .i64 0) ∧ PSt B yb d ib hb true c w' j mb sb f writes S m H hm ∧ Kp (fun k => k = d) w w' := by
  obtain ⟨l, hJ⟩ := h.jx
  obtain ⟨n1, n2, n3, n4, n5, n6, n7, n8, n9, n10, n11, n12⟩ := h.nes
  obtain ⟨m1, m2, m3, m4, m5, m6⟩ := hJ.ne
  refine (cut_any w d _ cut l writes n (by omega) hJ.disk.row).mono ?_
  rintro e w' ⟨rfl, hK, hz, hr⟩
  have e0 : (n == 0) = false := by simp; omega
  rw [e0] at hr
  exact ⟨rfl, ⟨⟨n, ⟨hr, (hK.block ib (blk_lt hJ.disk.img) m5.symm).trans hJ.disk.img, hJ.disk.len, hJ.disk.byt, hJ.disk.wr⟩, (hK.block j (blk_lt hJ.row) m1).trans hJ.row, hJ.map.kp hK m4.symm⟩, h.stg, h.rest, (hK.block yb (blk_lt h.play) n1).trans h.play, h.home.kp hK n7, h.stage.kp hK n10, h.ne, h.far⟩, hK⟩
theorem PSt.on (h : PSt B yb d ib hb cut c w j mb sb f writes S m H hm) : Calls Try.prog 17 #[.pointer (some ⟨d, 0, none⟩)] w fun e w' => e = .returned (.int .i64 0) ∧ PSt B yb d ib hb false c w' j mb sb f writes S m H hm ∧ Kp (fun k => k = d) w w' := by
  obtain ⟨l, hJ⟩ := h.jx
  obtain ⟨n1, n2, n3, n4, n5, n6, n7, n8, n9, n10, n11, n12⟩ := h.nes
  obtain ⟨m1, m2, m3, m4, m5, m6⟩ := hJ.ne
  refine (on_any w d _ false cut l writes hJ.disk.row).mono ?_
  rintro e w' ⟨rfl, hK, hz, hr⟩
  exact ⟨rfl, ⟨⟨l, ⟨hr, (hK.block ib (blk_lt hJ.disk.img) m5.symm).trans hJ.disk.img, hJ.disk.len, hJ.disk.byt, hJ.disk.wr⟩, (hK.block j (blk_lt hJ.row) m1).trans hJ.row, hJ.map.kp hK m4.symm⟩, h.stg, h.rest, (hK.block yb (blk_lt h.play) n1).trans h.play, h.home.kp hK n7, h.stage.kp hK n10, h.ne, h.far⟩, hK⟩
def PutL (j d mb ib : Nat) (f : Nat → List Nat) (writes : Int) (S : Int → Option ByteArray) (m : Nat) (t : Int) (bs : ByteArray) (w : World) (e : Ending) (w' : World) : Prop :=
  ∃ code S4 m4, e = .returned (.int .i64 code) ∧ JX p7 w' j d mb ib f false false writes false S4 m4 ∧ Kp (fun k => k = mb) w w' ∧
    ((homeB p7.n p7.fr p7.bl t = false ∧ code = 703 ∧ S4 = S ∧ m4 = m) ∨ (homeB p7.n p7.fr p7.bl t = true ∧ S t = none ∧ 40 ≤ m ∧ code = 702 ∧ S4 = S ∧ m4 = m) ∨
     (homeB p7.n p7.fr p7.bl t = true ∧ S t = none ∧ m < 40 ∧ code = 0 ∧ S4 = putS S t bs ∧ m4 = m + 1) ∨ (homeB p7.n p7.fr p7.bl t = true ∧ (∃ s, S t = some s) ∧ code = 0 ∧ S4 = putS S t bs ∧ m4 = m))
theorem PSt.put (h : PSt B yb d ib hb false c w j mb sb f writes S m H hm) (t : Int) (wt : (Lit.int .i64 t).wf = true) (bs : ByteArray) (hbs : bs.size = 256) : Calls Try.prog 10 #[.pointer (some ⟨j, 0, none⟩), .int .i64 t, .string bs] w (PutL j d mb ib f writes S m t bs w) := by
  obtain ⟨l, hJ⟩ := h.jx
  have hf := h.stg.few
  cases hh : homeB p7.n p7.fr p7.bl t with
  | false =>
    refine (put_no hJ wt hh bs).mono ?_
    rintro e w' ⟨rfl, q, rfl⟩
    exact ⟨703, S, m, rfl, ⟨l, hJ.quiet q⟩, (kp_refl _ w).drewN q, .inl ⟨hh, rfl, rfl, rfl⟩⟩
  | true =>
    cases hS : S t with
    | none =>
      by_cases hm : m < 40
      · refine (put_ok hJ (.inr hm) hf hh bs hbs).mono ?_
        rintro e w' ⟨rfl, hJ2, hK, _⟩
        rw [hS] at hJ2
        exact ⟨0, _, _, rfl, ⟨l, hJ2⟩, hK, .inr (.inr (.inl ⟨hh, hS, hm, rfl, rfl, rfl⟩))⟩
      · refine (put_full hJ (by omega) hh hS bs hbs).mono ?_
        rintro e w' ⟨rfl, q, rfl⟩
        exact ⟨702, S, m, rfl, ⟨l, hJ.quiet q⟩, (kp_refl _ w).drewN q, .inr (.inl ⟨hh, hS, by omega, rfl, rfl, rfl⟩)⟩
    | some s =>
      refine (put_ok hJ (.inl (by rw [hS]; rfl)) hf hh bs hbs).mono ?_
      rintro e w' ⟨rfl, hJ2, hK, _⟩
      rw [hS] at hJ2
      exact ⟨0, _, _, rfl, ⟨l, hJ2⟩, hK, .inr (.inr (.inr ⟨hh, ⟨s, hS⟩, rfl, rfl, rfl⟩))⟩
/-- the journal is told, the stage is not yet -/
theorem PSt.mid (h : PSt B yb d ib hb false c w j mb sb f writes S m H hm) (hK : Kp (fun k => k = mb) w w') : PlayAt w' yb d j hb sb c ∧ MapAt w' hb (strM H) hm ∧ MapAt w' sb (strM S) m := by
  obtain ⟨n1, n2, n3, n4, n5, n6, n7, n8, n9, n10, n11, n12⟩ := h.nes
  exact ⟨(hK.block yb (blk_lt h.play) n4).trans h.play, h.home.kp hK h.ne.2.1, h.stage.kp hK h.ne.1⟩
theorem PSt.unput (h : PSt B yb d ib hb false c w j mb sb f writes S m H hm) (hK : Kp (fun k => k = mb) w w') (hJ : JX p7 w' j d mb ib f false false writes false S m) : PSt B yb d ib hb false c w' j mb sb f writes S m H hm := by
  obtain ⟨hp, hh, hs⟩ := h.mid hK
  exact ⟨hJ, h.stg, h.rest, hp, hh, hs, h.ne, h.far⟩
theorem PSt.done {S4 : Int → Option ByteArray} {m4 : Nat} {w2 w3 : World} {t : Int} {bs : ByteArray} (h : PSt B yb d ib hb false c w j mb sb f writes S m H hm) (hK : Kp (fun k => k = mb) w w') (hJ : JX p7 w' j d mb ib f false false writes false S4 m4) (hK2 : Kp (fun _ => False) w' w2) (hK3 : Kp (fun k => k = sb) w2 w3) (hM : MapAt w3 sb (strM S4) m4) (h4 : S4 = putS S t bs) (hbs : bs.size = 256) (hh : homeB p7.n p7.fr p7.bl t = true) (hm4 : m4 ≤ 40) : PSt B yb d ib hb false c w3 j mb sb f writes S4 m4 H hm := by
  obtain ⟨n1, n2, n3, n4, n5, n6, n7, n8, n9, n10, n11, n12⟩ := h.nes
  obtain ⟨hp, hhm, hs⟩ := h.mid hK
  have hp2 : PlayAt w2 yb d j hb sb c := (hK2.block yb (blk_lt hp) (fun e => e)).trans hp
  refine ⟨(hJ.same hK2).kp hK3 n12.symm n10.symm h.ne.1.symm n11.symm, ⟨fun k s hk => ?_, hm4⟩, h.rest, (hK3.block yb (blk_lt hp2) n6).trans hp2, (hhm.kp hK2 (fun e => e)).kp hK3 h.ne.2.2, hM, h.ne, h.far⟩
  rw [h4] at hk
  unfold putS at hk
  split at hk
  · rename_i e
    subst e
    cases hk
    exact ⟨homeB_iff.1 hh, hbs⟩
  · exact h.stg.home k s hk
theorem PSt.read (h : PSt B yb d ib hb false c w j mb sb f writes S m H hm) (t : Int) (wt : (Lit.int .i64 t).wf = true) : Calls Try.prog 14 #[.pointer (some ⟨j, 0, none⟩), .int .i64 t] w (bif homeB p7.n p7.fr p7.bl t then QText (atS S H t) 0 w else QText ByteArray.empty 703 w) := by
  obtain ⟨l, hJ⟩ := h.jx
  cases hh : homeB p7.n p7.fr p7.bl t with
  | false => exact read_no hJ hh
  | true =>
    have e : readS S f t = atS S H t := by
      obtain ⟨n, rfl, hn⟩ := homeB_iff.1 hh
      unfold readS atS
      rw [Int.toNat_natCast, h.rest.2 n hn, hOf, strB_bytesOf]
    have := read_ok hJ hh
    rw [e] at this
    exact this
theorem PSt.ats (h : PSt B yb d ib hb cut c w j mb sb f writes S m H hm) (t : Int) (wt : (Lit.int .i64 t).wf = true) : Calls Try.prog 15 #[.pointer (some ⟨yb, 0, none⟩), .int .i64 t] w (StrPost (atS S H t) w) := at_any wt h.play h.home h.stage
/-- where a block may lie -/
theorem place_cases (t : Int) : (homeB p7.n p7.fr p7.bl t = false ∧ (t < 0 ∨ (0 ≤ t ∧ 110 ≤ t) ∨ (0 ≤ t ∧ t < 110 ∧ 10 ≤ t ∧ t < 70))) ∨ (homeB p7.n p7.fr p7.bl t = true ∧ ((0 ≤ t ∧ t < 110 ∧ t < 10) ∨ (0 ≤ t ∧ t < 110 ∧ 10 ≤ t ∧ 70 ≤ t))) := by
  unfold homeB p7
  simp
  omega
/-- opened anew -/
def OpenL (B yb d ib hb : Nat) (c : Bool) (H : Int → Option ByteArray) (hm : Nat) (w : World) (e : Ending) (w' : World) : Prop :=
  ∃ j2, e = .returned (.tuple #[.pointer (some ⟨j2, 0, none⟩), .int .i64 0]) ∧ (∃ mb f writes, PSt B yb d ib hb false c (freshW w' yb j2) j2 mb w'.heap.size f writes (fun _ => none) 0 H hm) ∧ (∃ sb j, PlayAt w' yb d j hb sb c) ∧ Kp (fun k => B ≤ k) w w'
theorem PSt.opens (h : PSt B yb d ib hb false c w j mb sb f writes S m H hm) (_ : B ≤ w.heap.size) : Calls Try.prog 18 #[.pointer (some ⟨d, 0, none⟩), .int .i64 10, .int .i64 60] w (OpenL B yb d ib hb c H hm w) := by
  obtain ⟨n1, n2, n3, n4, n5, n6, n7, n8, n9, _⟩ := h.nes
  obtain ⟨b1, b2, b3, b4, b5, b6, b7⟩ := h.far
  have hh := DX.openg h.jx.dx (stg_none p7) ksOf_none (h0 := hOf H) (.inl h.rest)
  refine (show Calls Try.prog 18 #[.pointer (some ⟨d, 0, none⟩), .int .i64 10, .int .i64 60] w _ from hh).mono ?_
  rintro e w' ⟨f', writes', j2, mb2, hj, hmb, rfl, hJ, hR, hK⟩
  have hR2 : Rest p7 (headL []) f' (hOf H) := by
    rcases hR with hR | hR
    · exact hR
    · exact ⟨hR.1, fun k hk => (hR.2 k hk).trans (by simp [over, stgN])⟩
  have hyl := blk_lt h.play
  have hhl := h.home.lt
  have hy2 : PlayAt w' yb d j hb sb c := (hK.block yb hyl (fun e => e.elim n1 n2)).trans h.play
  have hs := hK.size
  obtain ⟨hpf, hmf⟩ := fresh_play hy2 j2
  have hKf := fresh_kp w' yb j2
  have hmb2 : mb2 < w'.heap.size := by obtain ⟨l, hJ⟩ := hJ; exact hJ.map.lt
  refine ⟨j2, rfl, ⟨mb2, f', writes', ⟨hJ.kp hKf (by omega) n1.symm (by omega) n2.symm, stg_none _, hR2, hpf, (h.home.kp hK (fun e => e.elim n7 n8)).kp hKf n5.symm, hmf, ⟨by omega, by omega, by have := hhl; omega⟩, b1, b2, b3, b4, by omega, by omega, by omega⟩⟩, ⟨_, _, hy2⟩, hK.imp fun k e => by rcases e with rfl | rfl <;> assumption⟩
end
def PutMid (B yb d ib hb j mb sb : Nat) (f : Nat → List Nat) (writes : Int) (S : Int → Option ByteArray) (m : Nat) (H : Int → Option ByteArray) (hm : Nat) (t : Int) (bs : ByteArray) (bxr : Nat) (row : Array Value) (w0 : World) (s10 : Value) (wc : World) : Prop :=
  ∃ code S4 m4 w3, s10 = .int .i64 code ∧ PSt B yb d ib hb false false w3 j mb sb f writes S m H hm ∧ Kp (fun _ => False) w0 w3 ∧ Kp (fun k => k = mb) w3 wc ∧ JX p7 wc j d mb ib f false false writes false S4 m4 ∧ wc.heap[bxr]? = some (.cells row 37) ∧
    ((homeB p7.n p7.fr p7.bl t = false ∧ code = 703 ∧ S4 = S ∧ m4 = m) ∨ (homeB p7.n p7.fr p7.bl t = true ∧ S t = none ∧ 40 ≤ m ∧ code = 702 ∧ S4 = S ∧ m4 = m) ∨
     (homeB p7.n p7.fr p7.bl t = true ∧ S t = none ∧ m < 40 ∧ code = 0 ∧ S4 = putS S t bs ∧ m4 = m + 1) ∨ (homeB p7.n p7.fr p7.bl t = true ∧ (∃ s, S t = some s) ∧ code = 0 ∧ S4 = putS S t bs ∧ m4 = m))
def startRow (w : World) (d j : Nat) : Array Value := #[.pointer (some ⟨d, 0, none⟩), .pointer (some ⟨j, 0, none⟩), .int .i64 110, .map (some w.heap.size), .map (some (w.heap.size + 1)), .bool false]
abbrev startW (w : World) (d j : Nat) : World := ((w.alloc (.map #[] 0)).alloc (.map #[] 0)).alloc (.cells (startRow w d j) 33)
theorem start_kp (w : World) (d j : Nat) : Kp (fun _ => False) w (startW w d j) := ((kp_alloc _ w _).alloc _).alloc _
theorem start_pst {B d ib j mb : Nat} {w : World} {writes : Int} (h : JX p7 w j d mb ib (upd (fun _ => zeroL) p7.fr (headL [])) false false writes false (fun _ => none) 0) (hB : B ≤ w.heap.size) (hd : B ≤ d) (hi : B ≤ ib) (hj : B ≤ j) (hm : B ≤ mb) :
    PSt B (w.heap.size + 1 + 1) d ib w.heap.size false false (startW w d j) j mb (w.heap.size + 1) (upd (fun _ => zeroL) p7.fr (headL [])) writes (fun _ => none) 0 (fun _ => none) 0 := by
  have hml : mb < w.heap.size := by obtain ⟨l, hJ⟩ := h; exact hJ.map.lt
  refine ⟨h.same (start_kp w d j), stg_none _, ⟨upd_same _ _ _, fun k hk => ?_⟩, ?_, ?_, ?_, ⟨by omega, by omega, by omega⟩, by omega, hd, hi, hB, hj, hm, by omega⟩
  · rw [upd_other _ _ (hk.ne (Nat.le_refl _) (by simp [p7]))]
    simp only [hOf, wantS, Option.getD_none]
    rw [bytesOf_strB]
    intro b hb
    have := List.eq_of_mem_replicate hb
    omega
  · have := heap_alloc_new ((w.alloc (.map #[] 0)).alloc (.map #[] 0)) (.cells (startRow w d j) 33)
    have e : ((w.alloc (.map #[] 0)).alloc (.map #[] 0)).heap.size = w.heap.size + 1 + 1 := by simp
    rw [e] at this
    exact this
  · rw [strM_none']
    exact (mapAt_made w).kp (((kp_alloc (fun _ => False) _ _).alloc _)) (fun e => e)
  · rw [strM_none']
    have := mapAt_made (w.alloc (.map #[] 0))
    have e : (w.alloc (.map #[] 0)).heap.size = w.heap.size + 1 := by simp
    rw [e] at this
    exact this.kp (kp_alloc (fun _ => False) _ _) (fun e => e)
end Go.Proofs.Ytkcclaljhedmjaa

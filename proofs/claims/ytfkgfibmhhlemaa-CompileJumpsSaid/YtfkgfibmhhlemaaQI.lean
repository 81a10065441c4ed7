/- CompileTrees: a part of the proof (I0 I1 I2 I3 I4 I5 I6 I7). No conditions. -/
import Derived.Test.YtfkgfibmhhlemaaQH
namespace Go.Proofs.Ytfkgfibmhhlemaa
open Go.RowKit Go.Maps Go.WideMaps
set_option maxRecDepth 100000 in
set_option maxHeartbeats 6400000 in
theorem mstmt_9b (S1 : World → Prop) (Q : World → Prop) (b : Nat) (w : World) (t : ByteArray) (x : Nat) (kb ko cap n : Nat) (a : Int)
    (hkid0 : ∀ wi, Kp (fun _ => False) (Wb w 9 t x (.slice (some ⟨kb, ko, none⟩) 1 cap) a) wi → (∃ am cm, wi.cell? ⟨b, 0, none⟩ = some (.slice am n cm)) ∧ ∃ c0 c1 c2 c3 c4, wi.cell? ⟨kb, ko, none⟩ = some c0 ∧ wi.cell? ⟨kb, ko + 1, none⟩ = some c1 ∧ wi.cell? ⟨kb, ko + 2, none⟩ = some c2 ∧ wi.cell? ⟨kb, ko + 3, none⟩ = some c3 ∧ wi.cell? ⟨kb, ko + 4, none⟩ = some c4 ∧ Calls Try.prog 41 #[pt b 0, .agg #[c0, c1, c2, c3, c4]] wi fun e w' => e = .returned (.tuple #[]) ∧ S1 w')
    (hB1 : ∀ wr, S1 wr → Boxed wr w.heap.size 9 t x (.slice (some ⟨kb, ko, none⟩) 1 cap))
    (B : Nat) (S2 : World → Prop) (z zz : Int) (hz : decide (z < 0) = true) (hslot : ∀ wr, S1 wr → Calls Try.prog 42 #[pt b 0, .string t] wr fun e w' => e = .returned (.int .i64 z) ∧ w' = wr)
    (hnames : ∀ wr, S1 wr → ∃ v2 m ys, wr.cell? ⟨b, 1, none⟩ = some v2 ∧ wr.frozen? ⟨b, 1, none⟩ = false ∧ wr.ownsRow B 9 1 v2 m ys ∧ B ≤ wr.heap.size ∧ b < wr.heap.size ∧ v2.ownBlock ≠ some b ∧ m + 1 ≤ maxLen ∧ (m + 1) * 16 ≤ 140737488355328 ∧
      ∀ v3 w3, w3.ownsRow B 9 1 v3 (m + 1) (ys ++ [.string t]) → ((wr.alloc (.cells #[.string t] 9)).drew).grownBy w3 v2.ownBlock → (∀ k, v3.ownBlock = some k → v2.ownBlock = some k ∨ (wr.alloc (.cells #[.string t] 9)).heap.size ≤ k) → S2 (w3.setCell ⟨b, 1, none⟩ v3))
    (hB2 : ∀ wr, S2 wr → Boxed wr w.heap.size 9 t x (.slice (some ⟨kb, ko, none⟩) 1 cap))
    (hslot2 : ∀ wr, S2 wr → Calls Try.prog 42 #[pt b 0, .string t] wr fun e w' => e = .returned (.int .i64 zz) ∧ w' = wr)
    (hput : ∀ wr, S2 wr → Calls Try.prog 21 #[pt b 0, .agg #[.int .i64 4, .int .i64 zz, .float .f64 0, .string ⟨#[]⟩]] wr fun e w' => (∃ i, e = .returned (.int .i64 i)) ∧ Q w') :
    Calls Try.prog 28 #[pt b 0, .agg #[.int .i64 9, .string t, .float .f64 x, .slice (some ⟨kb, ko, none⟩) 1 cap, .int .i64 a]] w fun e w' => e = .returned (.tuple #[]) ∧ Q w' := by
  have hmm := @run_makeMap Try.prog
  have hown0 : ((Wb w 9 t x (.slice (some ⟨kb, ko, none⟩) 1 cap) a).alloc (.map #[] 0)).ownsMap Try.prog 3 RI (w.heap.size + 1) 0 (.map []) := wb_made w 9 t x (.slice (some ⟨kb, ko, none⟩) 1 cap) a
  have hk0 := kp_alloc (Wb w 9 t x (.slice (some ⟨kb, ko, none⟩) 1 cap) a) (.map #[] 0)
  go_enter Try.func28, Try.ntmps28
  go_wp2_with (first | (refine wpList_insert_own _ rfl (.tmp 11) _ _ 83 rfl 3 3 law3 Try.underlying83 RI (w.heap.size + 1) _ _ rfl (by assumption) (by decide) _ _ _ rfl rfl (key3 (by decide)) _ _ (RI_int (by decide)) ?_; intro w1 hown1 hgrow1; have hk1 := kp_stepb (by assumption) hgrow1; clear hgrow1; obtain ⟨y0, y1, y2, y3⟩ := kp_boxed hk1) | (at_lookup; refine wpList_lookup_own_ok_int _ rfl _ _ 83 rfl 3 3 .i64 law3 Try.underlying83 Try.underlying3 (zero3 _) (w.heap.size + 1) 5 (kidsD kidsS) rfl hown1 _ _ rfl (key3 (by decide)) ?_; intro c hat hwc; obtain ⟨hcc, hhas⟩ := kids_look hat; rw [hhas]; obtain rfl : c = 1 := hcc; clear hat; obtain ⟨⟨am, cm, hcm⟩, c0, c1, c2, c3, c4, g0, g1, g2, g3, g4, hcall⟩ := hkid0 _ hk1; clear hkid0 hk1) | (go_at_call 41; refine Calls.mono hcall ?_; rintro e w2 ⟨rfl, h1⟩; obtain ⟨z0, z1, z2, z3⟩ := hB1 _ h1; clear hcall) | (go_at_call 42; refine Calls.mono (hslot _ h1) ?_; rintro e w3 ⟨rfl, rfl⟩; clear hslot))
  obtain ⟨v2, m, ys, hc, hfz, hown, hbs, hblt, hne, h63, hby, hQ⟩ := hnames _ h1
  obtain ⟨i0, hi, hz0, hz1, hz2⟩ := info_parts info9
  have hca : ∀ o, (w3.alloc o).cell? ⟨b, 1, none⟩ = some v2 := fun o => (World.cell?_of_block (heap_alloc_old w3 o hblt)).trans hc
  clear hnames
  go_region_law ((refine step_own rfl (.tmp 59) (.tmp 62) 56 rfl B 9 i0 _ 1 16 Try.underlying56 hi hz0 hz1 hz2 rfl (by decide) v2 m ys (by simp [Act.eval]) (by exact (show World.ownsRow _ B 9 1 v2 m ys from hown.alloc _)) ⟨w3.heap.size, 0, none⟩ 1 [.string t] (by simp [Act.eval]) rfl (by exact news1 _ _ (by simp) _) (by intro u hu; simp at hu; subst hu; rfl) h63 hby (by simp; omega) ?_); intro v' w' hown' hgrow hfr; obtain ⟨ao, c', rfl⟩ := own_slice2 hown'; have hb' : w'.heap[b]? = w3.heap[b]? := (hgrow.block b (by simp; omega) (fun e => hne e.symm)).trans (heap_alloc_old w3 _ hblt); have hcw : w'.cell? ⟨b, 1, none⟩ = some v2 := (World.cell?_of_block hb').trans hc; have hfw : w'.frozen? ⟨b, 1, none⟩ = false := (World.frozen?_of_block hb').trans hfz; have hS2 := hQ _ _ hown' hgrow hfr; clear hb' hca hown' hgrow hfr)
  all_goals
    generalize (w'.setCell ⟨b, 1, none⟩ (.slice ao (m + 1) c')) = wn at hS2 ⊢
    obtain ⟨x0, x1, x2, x3⟩ := hB2 _ hS2
    have hslot3 := hslot2 _ hS2
    have hput3 := hput _ hS2
    clear hB2 hslot2 hput hQ hcw hfw
    go_wp2_with (first | (go_at_call 42; refine Calls.mono hslot3 ?_; rintro e w4 ⟨rfl, rfl⟩; clear hslot3) | (go_at_call 21; refine Calls.mono hput3 ?_; rintro e w5 ⟨⟨i, rfl⟩, h3⟩))
    all_goals first
      | (go_end0; exact ⟨rfl, h3⟩)
      | (refine bodyPost_ret (results_none rfl _ _ _) rfl ?_; exact ⟨rfl, h3⟩)
end Go.Proofs.Ytfkgfibmhhlemaa
namespace Go.Proofs.Ytfkgfibmhhlemaa
open Go.RowKit Go.Maps Go.WideMaps
set_option maxRecDepth 100000 in
set_option maxHeartbeats 4000000 in
/-- what is no statement, or has another number of kids -/
theorem mstmt_no (Q : World → Prop) (b : Nat) (w : World) (k : Int) (hwf : (Lit.int .i64 k).wf = true) (t : ByteArray) (x : Nat) (ao : Option Addr) (len cap : Nat) (a : Int)
    (hbad : kidsOf kidsS k = none ∨ ∃ c, kidsOf kidsS k = some c ∧ (c != (len : Int)) = true)
    (hQ : ∀ wi, Kp (fun _ => False) (Wb w k t x (.slice ao len cap) a) wi → (∃ β, wi.cell? ⟨b, 2, none⟩ = some (.bool β)) ∧ wi.frozen? ⟨b, 2, none⟩ = false ∧ Q (wi.setCell ⟨b, 2, none⟩ (.bool true))) :
    Calls Try.prog 28 #[pt b 0, .agg #[.int .i64 k, .string t, .float .f64 x, .slice ao len cap, .int .i64 a]] w fun e w' => e = .returned (.tuple #[]) ∧ Q w' := by
  have hmm := @run_makeMap Try.prog
  have hown0 : ((Wb w k t x (.slice ao len cap) a).alloc (.map #[] 0)).ownsMap Try.prog 3 RI (w.heap.size + 1) 0 (.map []) := wb_made w k t x (.slice ao len cap) a
  have hk0 := kp_alloc (Wb w k t x (.slice ao len cap) a) (.map #[] 0)
  have hkey := key3 hwf
  go_enter Try.func28, Try.ntmps28
  rcases hbad with hbad | ⟨c0, hbad, hcl⟩
  · go_wp2_with (first | (refine wpList_insert_own _ rfl (.tmp 11) _ _ 83 rfl 3 3 law3 Try.underlying83 RI (w.heap.size + 1) _ _ rfl (by assumption) (by decide) _ _ _ rfl rfl (key3 (by decide)) _ _ (RI_int (by decide)) ?_; intro w1 hown1 hgrow1; have hk1 := kp_stepb (by assumption) hgrow1; clear hgrow1; obtain ⟨y0, y1, y2, y3⟩ := kp_boxed hk1) | (at_lookup; refine wpList_lookup_own_ok_int _ rfl _ _ 83 rfl 3 3 .i64 law3 Try.underlying83 Try.underlying3 (zero3 _) (w.heap.size + 1) 5 (kidsD kidsS) rfl hown1 _ _ rfl hkey ?_; intro c hat hwc; obtain ⟨hcc, hhas⟩ := kids_look hat; rw [hhas]; rw [hbad] at hcc ⊢; obtain ⟨⟨β, q0⟩, q1, hq⟩ := hQ _ hk1; clear hat))
    refine bodyPost_ret (results_none rfl _ _ _) rfl ⟨rfl, hq⟩
  · go_wp2_with (first | (refine wpList_insert_own _ rfl (.tmp 11) _ _ 83 rfl 3 3 law3 Try.underlying83 RI (w.heap.size + 1) _ _ rfl (by assumption) (by decide) _ _ _ rfl rfl (key3 (by decide)) _ _ (RI_int (by decide)) ?_; intro w1 hown1 hgrow1; have hk1 := kp_stepb (by assumption) hgrow1; clear hgrow1; obtain ⟨y0, y1, y2, y3⟩ := kp_boxed hk1) | (at_lookup; refine wpList_lookup_own_ok_int _ rfl _ _ 83 rfl 3 3 .i64 law3 Try.underlying83 Try.underlying3 (zero3 _) (w.heap.size + 1) 5 (kidsD kidsS) rfl hown1 _ _ rfl hkey ?_; intro c hat hwc; obtain ⟨hcc, hhas⟩ := kids_look hat; rw [hhas]; rw [hbad] at hcc ⊢; obtain rfl : c = c0 := hcc; obtain ⟨⟨β, q0⟩, q1, hq⟩ := hQ _ hk1; clear hat))
    refine bodyPost_ret (results_none rfl _ _ _) rfl ⟨rfl, hq⟩
set_option maxRecDepth 100000 in
set_option maxHeartbeats 1600000 in
/-- a block -/
theorem mblock_walk (S : Nat → World → Prop) (b : Nat) (w : World) (t : ByteArray) (x : Nat) (ao : Option Addr) (len cap : Nat) (hl : len ≤ cap) (hcap : cap ≤ 9223372036854775807) (a : Int)
    (hao : ∀ k, k < len → ∃ kb ko, ao = some ⟨kb, ko, none⟩)
    (hS0 : S 0 (Wb w 8 t x (.slice ao len cap) a))
    (hSc : ∀ k wr, S k wr → Boxed wr w.heap.size 8 t x (.slice ao len cap))
    (hkid : ∀ k wr kb ko, ao = some ⟨kb, ko, none⟩ → k < len → S k wr → ∃ c0 c1 c2 c3 c4, wr.cell? ⟨kb, ko + k * 5, none⟩ = some c0 ∧ wr.cell? ⟨kb, ko + k * 5 + 1, none⟩ = some c1 ∧ wr.cell? ⟨kb, ko + k * 5 + 2, none⟩ = some c2 ∧ wr.cell? ⟨kb, ko + k * 5 + 3, none⟩ = some c3 ∧ wr.cell? ⟨kb, ko + k * 5 + 4, none⟩ = some c4 ∧
      Calls Try.prog 28 #[pt b 0, .agg #[c0, c1, c2, c3, c4]] wr fun e w' => e = .returned (.tuple #[]) ∧ S (k + 1) w') :
    Calls Try.prog 20 #[pt b 0, .agg #[.int .i64 8, .string t, .float .f64 x, .slice ao len cap, .int .i64 a]] w fun e w' => e = .returned (.tuple #[]) ∧ S len w' := by
  go_enter Try.func20, Try.ntmps20
  go_wp2
  go_loopw [4] (fun i wr => ∃ (k : Nat), k ≤ len ∧ i = .int .i64 k ∧ S k wr) (fun i _ => len - (intOf i).toNat)
  case atStart => exact ⟨0, by omega, rfl, hS0⟩
  case round =>
    obtain ⟨k, hkl, rfl, hS⟩ := hrel
    obtain ⟨z0, z1, z2, z3⟩ := hSc _ _ hS
    by_cases hlt : k < len
    · obtain ⟨kb, ko, rfl⟩ := hao k hlt
      obtain ⟨c0, c1, c2, c3, c4, g0, g1, g2, g3, g4, hcall⟩ := hkid k _ kb ko rfl hlt hS
      clear hkid hao hSc
      go_wp2_with (go_at_call 28; refine Calls.mono hcall ?_; rintro e w2 ⟨rfl, h2⟩)
      go_roundw
      case rel => first | exact ⟨k + 1, by omega, by go_num, h2⟩ | ((repeat apply Exists.intro); exact ⟨⟨k + 1, by omega, by go_num, h2⟩, rfl⟩)
      case measure => simp [intOf]; omega
    · obtain rfl : k = len := by omega
      clear hkid hao
      go_wp2_with fail
      go_end0
      exact ⟨rfl, hS⟩
set_option maxRecDepth 100000 in
set_option maxHeartbeats 1600000 in
theorem mblock_no (Q : World → Prop) (b : Nat) (w : World) (k : Int) (hk : (k != 8) = true) (t : ByteArray) (x : Nat) (S : Value) (a : Int) (β : Bool) (q0 : (Wb w k t x S a).cell? ⟨b, 2, none⟩ = some (.bool β)) (q1 : (Wb w k t x S a).frozen? ⟨b, 2, none⟩ = false)
    (hQ : Q ((Wb w k t x S a).setCell ⟨b, 2, none⟩ (.bool true))) :
    Calls Try.prog 20 #[pt b 0, .agg #[.int .i64 k, .string t, .float .f64 x, S, .int .i64 a]] w fun e w' => e = .returned (.tuple #[]) ∧ Q w' := by
  go_enter Try.func20, Try.ntmps20
  go_wp2
  refine bodyPost_ret (results_none rfl _ _ _) rfl ⟨rfl, hQ⟩
end Go.Proofs.Ytfkgfibmhhlemaa
namespace Go.Proofs.Ytfkgfibmhhlemaa
open Go.RowKit Go.Maps Go.WideMaps
def RelS (o : Option Out) (new : List Value) (sl sl' : List (List UInt8)) (β β' : Bool) : Prop := sl.length ≤ sl'.length ∧ (β = true → β' = true) ∧ match o with
  | some p => new = p.1 ∧ sl' = p.2 ∧ β' = β
  | none => β' = true ∨ 64 < sl'.length
/-- what a statement does to the maker -/
def MSLaid (R : Nat → Prop) (sl : List (List UInt8)) (β : Bool) (w : World) (B b : Nat) (v : Value) (n : Nat) (xs : List Value) (v2 : Value) (m : Nat) (o : Option Out) (w' : World) : Prop :=
  ∃ new sl' β' v' v2', MSteps R sl' β' w B b v n xs v2 new v' v2' w' ∧ cnt new ≤ 2 * m ∧ sl'.length ≤ sl.length + m ∧ RelS o new sl sl' β β'
def MNodeOk (f : Nat) (code : Nat → List (List UInt8) → Nd → Option Out) (nd : Nd) : Prop := ∀ (R : Nat → Prop) (sl : List (List UInt8)) (β : Bool) (w : World) (B b : Nat) (v : Value) (n : Nat) (xs : List Value) (v2 V : Value),
  Mk R sl β w B b v n xs v2 → (∀ u ∈ xs, u.oneCell' = true) → nd.ok → NodeAt R w nd V → sl.length + nd.wt + 1 ≤ 3518437208883 → n + 2 * nd.wt + 1 ≤ 3518437208883 →
  Calls Try.prog f #[pt b 0, V] w fun e w' => e = .returned (.tuple #[]) ∧ MSLaid R sl β w B b v n xs v2 nd.wt (code n sl nd) w'
section
variable {R : Nat → Prop} {sl sl1 sl2 : List (List UInt8)} {β β1 β2 : Bool} {w w1 w2 : World} {B b n : Nat} {v v1 v' : Value} {xs new new2 : List Value} {v2 v3 v4 : Value} {K : Int} {t : ByteArray} {x : Nat} {ao : Option Addr} {cap : Nat} {a : Int} {ks : List Nd}
/-- a jump is told its place -/
theorem mshut_one {ce p : List Value} {op z : Int} {j : Nat} (hx : ∀ u ∈ xs, u.oneCell' = true) (hxl : xs.length = n * 4) (h : MSteps R sl1 β1 w B b v n xs v2 (ce ++ ins op z f0 noText ++ p) v1 v3 w1) (hce : ce.length = cnt ce * 4) (hj : j = n + cnt ce) (hs : n + cnt (ce ++ ins op z f0 noText ++ p) + 1 ≤ 3518437208883) (Q : World → Prop)
    (hQ : ∀ w2, MSteps R sl1 β1 w B b v n xs v2 (ce ++ ins op (n + cnt (ce ++ ins op z f0 noText ++ p) : Nat) f0 noText ++ p) v1 v3 w2 → Q w2) :
    ∃ g m cp old, j < m ∧ m ≤ 9223372036854775807 ∧ w1.cell? ⟨b, 0, none⟩ = some (.slice (some ⟨g, 0, none⟩) m cp) ∧ w1.cell? ⟨g, j * 4 + 1, none⟩ = some old ∧ w1.frozen? ⟨g, j * 4 + 1, none⟩ = false ∧ old.oneCell' = true ∧ Q ((w1.setCell ⟨g, j * 4 + 1, none⟩ (.int .i64 m)).drew) := by
  have hcn : cnt ce < cnt (ce ++ ins op z f0 noText ++ p) := by
    have := cnt_add (b := ins op z f0 noText ++ p) hce
    rw [List.append_assoc, this]
    have : 1 ≤ cnt (ins op z f0 noText ++ p) := by unfold cnt; simp; omega
    omega
  have hem := h.st.em
  have hlen : (xs ++ (ce ++ ins op z f0 noText ++ p)).length = (n + cnt (ce ++ ins op z f0 noText ++ p)) * 4 := hem.own.1
  obtain ⟨g, cap, rfl⟩ : ∃ g cap, v1 = .slice (some ⟨g, 0, none⟩) (n + cnt (ce ++ ins op z f0 noText ++ p)) cap := by
    rcases hem.own.2 with ⟨_, h⟩ | ⟨g, cap, cur, e, _⟩
    · omega
    · exact ⟨g, cap, e⟩
  have hxs := h.ones hx
  obtain ⟨ho, hof, _⟩ := hem.at (i := j * 4 + 1) (by omega)
  rw [List.getElem?_eq_getElem (by omega)] at ho
  have hoc := hxs _ (List.getElem_mem (l := xs ++ (ce ++ ins op z f0 noText ++ p)) (n := j * 4 + 1) (by omega))
  refine ⟨g, n + cnt (ce ++ ins op z f0 noText ++ p), cap, _, by omega, by omega, hem.cell, ho, hof, hoc, hQ _ ?_⟩
  have hset : (xs ++ (ce ++ ins op z f0 noText ++ p)).set (j * 4 + 1) (.int .i64 (n + cnt (ce ++ ins op z f0 noText ++ p) : Nat)) = xs ++ (ce ++ ins op (n + cnt (ce ++ ins op z f0 noText ++ p) : Nat) f0 noText ++ p) := by
    rw [show xs ++ (ce ++ ins op z f0 noText ++ p) = (xs ++ ce) ++ ins op z f0 noText ++ p by simp, show xs ++ (ce ++ ins op (n + cnt (ce ++ ins op z f0 noText ++ p) : Nat) f0 noText ++ p) = (xs ++ ce) ++ ins op (n + cnt (ce ++ ins op z f0 noText ++ p) : Nat) f0 noText ++ p by simp]
    exact set_ins _ _ _ _ _ _ _ (by rw [List.length_append, hxl, hce, hj, Nat.add_mul])
  have hcnt : cnt (ce ++ ins op (n + cnt (ce ++ ins op z f0 noText ++ p) : Nat) f0 noText ++ p) = cnt (ce ++ ins op z f0 noText ++ p) := by unfold cnt; simp
  have hoth : ∀ k, k ≠ g → ((w1.setCell ⟨g, j * 4 + 1, none⟩ (.int .i64 (n + cnt (ce ++ ins op z f0 noText ++ p) : Nat))).drew).heap[k]? = w1.heap[k]? := fun k hk => by
    show (w1.setCell ⟨g, j * 4 + 1, none⟩ (.int .i64 (n + cnt (ce ++ ins op z f0 noText ++ p) : Nat))).heap[k]? = _
    simp [World.setCell, Array.getElem?_modify, hk.symm]
  have hgb : b ≠ g := fun e => hem.ne (by rw [e]; rfl)
  have hgn : v3.ownBlock ≠ some g := h.st.apart g rfl
  have hbb := hoth b hgb
  refine ⟨⟨?_, h.st.rB, h.st.bb, (World.cell?_of_block hbb).trans h.st.names, own_heap h.st.nown (Nat.le_refl _) fun k e => hoth k fun e2 => hgn (by rw [e, e2]), h.st.nne, h.st.apart, (World.cell?_of_block hbb).trans h.st.bad, (World.frozen?_of_block hbb).trans h.st.z1, (World.frozen?_of_block hbb).trans h.st.z2⟩, ?_, ?_, ?_, h.fr1, h.fr2⟩
  · rw [hcnt, ← hset]
    exact hem.set _ rfl
  · rw [hcnt, ← h.len]; simp
  · intro u hu
    simp only [List.mem_append] at hu
    rcases hu with (hu | hu) | hu
    · exact h.one u (by simp [hu])
    · exact one_ins _ _ _ _ u hu
    · exact h.one u (by simp [hu])
  · refine ⟨h.kept.os, h.kept.tape, h.kept.output, by show w.heap.size ≤ (w1.setCell _ _).heap.size; simpa [World.setCell] using h.kept.size, fun k hk hS => (hoth k fun e => ?_).trans (h.kept.block k hk hS)⟩
    rcases h.fr1 g rfl with e2 | e2
    · exact hS (.inr (.inl (by rw [e]; exact e2)))
    · omega
theorem MSLaid.base {w0 : World} {m : Nat} {o : Option Out} {w' : World} (hk : Kp (fun _ => False) w0 w) (h : MSLaid R sl β w B b v n xs v2 m o w') : MSLaid R sl β w0 B b v n xs v2 m o w' := by
  obtain ⟨new, sl', β', v', v2', h1, h2, h3, h4⟩ := h
  exact ⟨new, sl', β', v', v2', h1.base hk, h2, h3, h4⟩
theorem mstmt_bad {code : Option Out} (hM : Mk R sl β w B b v n xs v2) (hwf : (Lit.int .i64 K).wf = true) (hbad : kidsOf kidsS K = none ∨ ∃ c, kidsOf kidsS K = some c ∧ (c != (ks.length : Int)) = true) (ho : code = none) (m : Nat) :
    Calls Try.prog 28 #[pt b 0, .agg #[.int .i64 K, .string t, .float .f64 x, .slice ao ks.length cap, .int .i64 a]] w fun e w' => e = .returned (.tuple #[]) ∧ MSLaid R sl β w B b v n xs v2 m code w' := by
  refine mstmt_no _ b w K hwf t x ao ks.length cap a hbad fun wi hki => ?_
  have hk0 := (kp_alloc w (.cells #[.int .i64 K, .string t, .float .f64 x, .slice ao ks.length cap, .int .i64 a] 25)).trans0 hki
  have h1 := MSteps.kp hM hk0
  have h2 := h1.trans (MSteps.mark h1.st true)
  refine ⟨⟨_, h1.st.bad⟩, h1.st.z2, [], sl, true, v, v2, h2, by simp [cnt], by omega, ?_⟩
  rw [ho]
  exact ⟨Nat.le_refl _, fun _ => rfl, .inl rfl⟩
/-- a kid's five cells -/
theorem kid_cells {kb ko : Nat} {W wr : World} (_hM : Mk R sl β W B b v n xs v2) (hblk : ∀ j, R j → wr.heap[j]? = W.heap[j]?) (hkids : KidsAt R W ks (.slice (some ⟨kb, ko, none⟩) ks.length cap) 0) (i : Nat) (hi : i < ks.length) :
    ∃ c0 c1 c2 c3 c4, wr.cell? ⟨kb, ko + i * 5, none⟩ = some c0 ∧ wr.cell? ⟨kb, ko + i * 5 + 1, none⟩ = some c1 ∧ wr.cell? ⟨kb, ko + i * 5 + 2, none⟩ = some c2 ∧ wr.cell? ⟨kb, ko + i * 5 + 3, none⟩ = some c3 ∧ wr.cell? ⟨kb, ko + i * 5 + 4, none⟩ = some c4 ∧ NodeAt R wr ks[i] (.agg #[c0, c1, c2, c3, c4]) := by
  obtain ⟨c0, c1, c2, c3, c4, ⟨b', o', n', cap', e, hRb, h0, h1, h2, h3, h4⟩, hnd⟩ := KidsAt.at i hi hkids
  injection e with e1 e2 e3; injection e1 with e1; injection e1 with e4 e5; subst e4; subst e5
  rw [Nat.zero_add] at h0 h1 h2 h3 h4
  have hb := hblk _ hRb
  exact ⟨c0, c1, c2, c3, c4, (World.cell?_of_block hb).trans h0, (World.cell?_of_block hb).trans h1, (World.cell?_of_block hb).trans h2, (World.cell?_of_block hb).trans h3, (World.cell?_of_block hb).trans h4, hnd.kept hblk⟩
end
end Go.Proofs.Ytfkgfibmhhlemaa
namespace Go.Proofs.Ytfkgfibmhhlemaa
open Go.RowKit Go.Maps Go.WideMaps
section
variable {R : Nat → Prop} {sl sl1 sl2 : List (List UInt8)} {β β1 β2 : Bool} {w w1 w2 : World} {B b n : Nat} {v v1 v' : Value} {xs new new2 : List Value} {v2 v3 v4 : Value} {K : Int} {t : ByteArray} {x : Nat} {ao : Option Addr} {kb ko cap : Nat} {a : Int} {ks : List Nd}
theorem RelE.toS {o : Option (List Value)} {i : List Value} (h : RelE o new β β1) : RelS (o.map fun e => (e ++ i, sl)) (new ++ i) sl sl β β1 := by
  refine ⟨Nat.le_refl _, h.1, ?_⟩
  have h2 := h.2
  cases o with
  | none => exact .inl h2
  | some c => obtain ⟨rfl, rfl⟩ := h2; exact ⟨rfl, rfl, rfl⟩
/-- the first kid, an expression -/
theorem first_kid {K : Int} {c : Nat} {k1 : Nd} {r : List Nd} (hM : Mk R sl β w B b v n xs v2) (hc : c = (k1 :: r).length) (hok : k1.ok) (hkids : KidsAt R w (k1 :: r) (.slice (some ⟨kb, ko, none⟩) c cap) 0) (hsl : sl.length ≤ 9223372036854775807) (hs : n + k1.wt + 1 ≤ 3518437208883) :
    ∀ wi, Kp (fun _ => False) (Wb w K t x (.slice (some ⟨kb, ko, none⟩) c cap) a) wi → (∃ am cm, wi.cell? ⟨b, 0, none⟩ = some (.slice am n cm)) ∧ ∃ c0 c1 c2 c3 c4, wi.cell? ⟨kb, ko, none⟩ = some c0 ∧ wi.cell? ⟨kb, ko + 1, none⟩ = some c1 ∧ wi.cell? ⟨kb, ko + 2, none⟩ = some c2 ∧ wi.cell? ⟨kb, ko + 3, none⟩ = some c3 ∧ wi.cell? ⟨kb, ko + 4, none⟩ = some c4 ∧
      Calls Try.prog 41 #[pt b 0, .agg #[c0, c1, c2, c3, c4]] wi fun e w' => e = .returned (.tuple #[]) ∧ MLaid R sl β (Wb w K t x (.slice (some ⟨kb, ko, none⟩) c cap) a) B b v n xs v2 k1.wt (exprC sl k1) w' := by
  intro wi hk
  subst hc
  have hk0 := kp_alloc w (.cells #[.int .i64 K, .string t, .float .f64 x, .slice (some ⟨kb, ko, none⟩) (k1 :: r).length cap, .int .i64 a] 25)
  have hkw := hk0.trans0 hk
  have hMi := hM.kp hkw
  obtain ⟨am, cm, hv⟩ := hMi.em.slice
  obtain ⟨c0, c1, c2, c3, c4, h0, h1, h2, h3, h4, hnd⟩ := kid_cells hM (fun j hj => hkw.block j (Nat.lt_of_lt_of_le (hM.rB j hj) hM.bs) fun e => e) hkids 0 (by simp)
  simp only [Nat.zero_mul, Nat.add_zero, List.getElem_cons_zero] at h0 h1 h2 h3 h4 hnd
  exact ⟨⟨am, cm, hv ▸ hMi.em.cell⟩, c0, c1, c2, c3, c4, h0, h1, h2, h3, h4, (mexpr_any k1 R sl β wi B b v n xs v2 _ hMi hok hnd hsl hs).mono fun e w' h => ⟨h.1, h.2.base hk⟩⟩
theorem first_boxed {K : Int} {c m : Nat} {o : Option (List Value)} (hM : Mk R sl β w B b v n xs v2) : ∀ wr, MLaid R sl β (Wb w K t x (.slice (some ⟨kb, ko, none⟩) c cap) a) B b v n xs v2 m o wr → Boxed wr w.heap.size K t x (.slice (some ⟨kb, ko, none⟩) c cap) :=
  fun _ ⟨_, _, _, hst, _⟩ => boxed_kept hM hst.kept
theorem mst_12 {k1 : Nd} (hM : Mk R sl β w B b v n xs v2) (_hx : ∀ u ∈ xs, u.oneCell' = true) (hok : okL [k1]) (hkids : KidsAt R w [k1] (.slice (some ⟨kb, ko, none⟩) 1 cap) 0) (hsl : sl.length + (1 + t.size + wtL [k1]) + 1 ≤ 3518437208883) (hs : n + 2 * (1 + t.size + wtL [k1]) + 1 ≤ 3518437208883) :
    Calls Try.prog 28 #[pt b 0, .agg #[.int .i64 12, .string t, .float .f64 x, .slice (some ⟨kb, ko, none⟩) 1 cap, .int .i64 a]] w fun e w' => e = .returned (.tuple #[]) ∧ MSLaid R sl β w B b v n xs v2 (1 + t.size + wtL [k1]) (stmtC n sl (.mk 12 t x [k1] a)) w' := by
  simp only [wtL] at hsl hs ⊢
  refine mstmt_12 _ _ b w t x kb ko cap n a (first_kid hM rfl hok.1 hkids (by omega) (by omega)) (first_boxed hM) fun wr ⟨new, β1, v1, hst, hcn, hrel⟩ => ?_
  refine (mput_one hst.st (by omega) 18 0 0 noText).mono fun e w' ⟨he, v3, h3⟩ => ⟨⟨_, he⟩, new ++ ins 18 0 f0 noText, sl, β1, v3, v2, (hst.trans h3).base (kp_alloc w _), by rw [cnt_add hst.len, cnt_ins]; omega, by omega, ?_⟩
  rw [stmtC.eq_def]
  exact hrel.toS
theorem mst_13 {k1 : Nd} (hM : Mk R sl β w B b v n xs v2) (_hx : ∀ u ∈ xs, u.oneCell' = true) (hok : okL [k1]) (hkids : KidsAt R w [k1] (.slice (some ⟨kb, ko, none⟩) 1 cap) 0) (hsl : sl.length + (1 + t.size + wtL [k1]) + 1 ≤ 3518437208883) (hs : n + 2 * (1 + t.size + wtL [k1]) + 1 ≤ 3518437208883) :
    Calls Try.prog 28 #[pt b 0, .agg #[.int .i64 13, .string t, .float .f64 x, .slice (some ⟨kb, ko, none⟩) 1 cap, .int .i64 a]] w fun e w' => e = .returned (.tuple #[]) ∧ MSLaid R sl β w B b v n xs v2 (1 + t.size + wtL [k1]) (stmtC n sl (.mk 13 t x [k1] a)) w' := by
  simp only [wtL] at hsl hs ⊢
  refine mstmt_13 _ _ b w t x kb ko cap n a (first_kid hM rfl hok.1 hkids (by omega) (by omega)) (first_boxed hM) fun wr ⟨new, β1, v1, hst, hcn, hrel⟩ => ?_
  refine (mput_one hst.st (by omega) 19 0 0 noText).mono fun e w' ⟨he, v3, h3⟩ => ⟨⟨_, he⟩, new ++ ins 19 0 f0 noText, sl, β1, v3, v2, (hst.trans h3).base (kp_alloc w _), by rw [cnt_add hst.len, cnt_ins]; omega, by omega, ?_⟩
  rw [stmtC.eq_def]
  exact hrel.toS
theorem mst_11 {k1 k2 : Nd} (ih : MNodeOk 20 blockC k2) (hM : Mk R sl β w B b v n xs v2) (hx : ∀ u ∈ xs, u.oneCell' = true) (hok : okL [k1, k2]) (hkids : KidsAt R w [k1, k2] (.slice (some ⟨kb, ko, none⟩) 2 cap) 0) (hsl : sl.length + (1 + t.size + wtL [k1, k2]) + 1 ≤ 3518437208883) (hs : n + 2 * (1 + t.size + wtL [k1, k2]) + 1 ≤ 3518437208883) :
    Calls Try.prog 28 #[pt b 0, .agg #[.int .i64 11, .string t, .float .f64 x, .slice (some ⟨kb, ko, none⟩) 2 cap, .int .i64 a]] w fun e w' => e = .returned (.tuple #[]) ∧ MSLaid R sl β w B b v n xs v2 (1 + t.size + wtL [k1, k2]) (stmtC n sl (.mk 11 t x [k1, k2] a)) w' := by
  simp only [wtL] at hsl hs ⊢
  have hxl : xs.length = n * 4 := hM.em.own.1
  have hk0 := kp_alloc w (.cells #[.int .i64 11, .string t, .float .f64 x, .slice (some ⟨kb, ko, none⟩) 2 cap, .int .i64 a] 25)
  have hW := hM.kp hk0
  have hblk : ∀ sl' β' new v' v2' wr, MSteps R sl' β' (Wb w 11 t x (.slice (some ⟨kb, ko, none⟩) 2 cap) a) B b v n xs v2 new v' v2' wr → ∀ j, R j → wr.heap[j]? = w.heap[j]? := fun _ _ _ _ _ _ h j hj => (hW.rblock h.kept j hj).trans (hk0.block j (Nat.lt_of_lt_of_le (hM.rB j hj) hM.bs) fun e => e)
  refine mstmt_11 _
    (fun j wr => ∃ ce β1 v1, MSteps R sl β1 (Wb w 11 t x (.slice (some ⟨kb, ko, none⟩) 2 cap) a) B b v n xs v2 (ce ++ ins 16 0 f0 noText) v1 v2 wr ∧ cnt ce ≤ k1.wt ∧ ce.length = cnt ce * 4 ∧ RelE (exprC sl k1) ce β β1 ∧ j = n + cnt ce)
    (fun j wr => ∃ ce p sl2 β1 β2 v1 v3, MSteps R sl2 β2 (Wb w 11 t x (.slice (some ⟨kb, ko, none⟩) 2 cap) a) B b v n xs v2 (ce ++ ins 16 0 f0 noText ++ p) v1 v3 wr ∧ cnt ce ≤ k1.wt ∧ ce.length = cnt ce * 4 ∧ cnt p ≤ 2 * k2.wt ∧ p.length = cnt p * 4 ∧ sl2.length ≤ sl.length + k2.wt ∧ RelE (exprC sl k1) ce β β1 ∧ RelS (blockC (n + cnt ce + 1) sl k2) p sl sl2 β1 β2 ∧ j = n + cnt ce)
    (fun j wr => ∃ ce p sl2 β1 β2 v1 v3, MSteps R sl2 β2 (Wb w 11 t x (.slice (some ⟨kb, ko, none⟩) 2 cap) a) B b v n xs v2 (ce ++ ins 16 0 f0 noText ++ (p ++ ins 15 n f0 noText)) v1 v3 wr ∧ cnt ce ≤ k1.wt ∧ ce.length = cnt ce * 4 ∧ cnt p ≤ 2 * k2.wt ∧ p.length = cnt p * 4 ∧ sl2.length ≤ sl.length + k2.wt ∧ RelE (exprC sl k1) ce β β1 ∧ RelS (blockC (n + cnt ce + 1) sl k2) p sl sl2 β1 β2 ∧ j = n + cnt ce)
    _ b w t x kb ko cap n a (first_kid hM rfl hok.1 hkids (by omega) (by omega)) (first_boxed hM) (fun wr ⟨ce, β1, v1, hst, hcn, hrel⟩ => ?_) (fun j wr ⟨ce, β1, v1, hst, hcn, hcl, hrel, hj⟩ => ?_) (fun j wr ⟨ce, p, sl2, β1, β2, v1, v3, hst, hcn, hcl, hpn, hpl, hs2, hrel, hrp, hj⟩ => ?_) (fun j wr ⟨ce, p, sl2, β1, β2, v1, v3, hst, hcn, hcl, hpn, hpl, hs2, hrel, hrp, hj⟩ => ?_)
  · exact (mput_one hst.st (by omega) 16 0 0 noText).mono fun e w' ⟨he, v3, h3⟩ => ⟨n + cnt ce, he, ce, β1, v3, hst.trans h3, hcn, hst.len, hrel, rfl⟩
  · refine ⟨boxed_kept hM hst.kept, ?_⟩
    obtain ⟨c0, c1, c2, c3, c4, h0, h1, h2, h3, h4, hnd⟩ := kid_cells hM (hblk _ _ _ _ _ _ hst) hkids 1 (by simp)
    simp only [Nat.one_mul, List.getElem_cons_succ, List.getElem_cons_zero] at h0 h1 h2 h3 h4 hnd
    have hc1 : cnt (ce ++ ins 16 0 f0 noText) = cnt ce + 1 := by rw [cnt_add hcl, cnt_ins]
    refine ⟨c0, c1, c2, c3, c4, h0, h1, h2, h3, h4, (ih R sl β1 wr B b v1 _ _ v2 _ hst.st (hst.ones hx) hok.2.1 hnd (by omega) (by rw [hc1]; omega)).mono fun e w' ⟨he, p, sl2, β2, v3, v4, h5, hpn, hs2, hrp⟩ => ⟨he, ce, p, sl2, β1, β2, v3, v4, hst.trans h5, hcn, hcl, hpn, h5.len, hs2, hrel, ?_, hj⟩⟩
    rw [hc1, ← Nat.add_assoc] at hrp
    exact hrp
  · have hc1 : cnt (ce ++ ins 16 0 f0 noText ++ p) = cnt ce + 1 + cnt p := by rw [cnt_add (by rw [List.length_append, cnt_add hcl, cnt_ins, hcl]; simp; omega), cnt_add hcl, cnt_ins]
    refine (mput_one hst.st (by rw [hc1]; omega) 15 n 0 noText).mono fun e w' ⟨he, v4, h4⟩ => ⟨⟨_, he⟩, ce, p, sl2, β1, β2, v4, v3, ?_, hcn, hcl, hpn, hpl, hs2, hrel, hrp, hj⟩
    have := hst.trans h4
    rwa [List.append_assoc] at this
  · have hc1 : cnt (ce ++ ins 16 0 f0 noText ++ (p ++ ins 15 n f0 noText)) = cnt ce + 1 + (cnt p + 1) := by rw [cnt_add (by rw [List.length_append, cnt_add hcl, cnt_ins, hcl]; simp; omega), cnt_add hcl, cnt_add hpl, cnt_ins, cnt_ins]
    refine mshut_one hx hxl hst hcl hj (by rw [hc1]; omega) _ fun w2 h2 => ⟨_, sl2, β2, v1, v3, h2.base hk0, ?_, by omega, ?_⟩
    · rw [cnt_add (by rw [List.length_append, cnt_add hcl, cnt_ins, hcl]; simp; omega), cnt_add hcl, cnt_add hpl, cnt_ins, cnt_ins]; omega
    · rw [hc1, stmtC.eq_def]
      simp only [show ¬ (11 : Int) = 9 by decide, show ¬ (11 : Int) = 10 by decide, if_false, if_true]
      refine ⟨hrp.1, fun h => hrp.2.1 (hrel.1 h), ?_⟩
      have h1 := hrel.2
      cases hc : exprC sl k1 with
      | none => rw [hc] at h1; exact .inl (hrp.2.1 h1)
      | some c =>
        rw [hc] at h1
        obtain ⟨rfl, rfl⟩ := h1
        have h2 := hrp.2.2
        simp only [Option.bind_some]
        cases hb : blockC (n + cnt ce + 1) sl k2 with
        | none => rw [hb] at h2; exact h2
        | some q =>
          rw [hb] at h2
          obtain ⟨rfl, rfl, rfl⟩ := h2
          refine ⟨?_, rfl, rfl⟩
          simp [Nat.add_assoc]
end
end Go.Proofs.Ytfkgfibmhhlemaa
namespace Go.Proofs.Ytfkgfibmhhlemaa
open Go.RowKit Go.Maps Go.WideMaps
section
variable {R : Nat → Prop} {sl sl1 sl2 : List (List UInt8)} {β β1 β2 : Bool} {w w1 w2 : World} {B b n : Nat} {v v1 v' : Value} {xs new new2 : List Value} {v2 v3 v4 : Value} {K : Int} {t : ByteArray} {x : Nat} {ao : Option Addr} {kb ko cap : Nat} {a : Int} {ks : List Nd}
theorem mst_10a {k1 k2 k3 : Nd} (h3k : k3.kind = 0) (h3l : k3.kids.length = 0) (ih : MNodeOk 20 blockC k2) (hM : Mk R sl β w B b v n xs v2) (hx : ∀ u ∈ xs, u.oneCell' = true) (hok : okL [k1, k2, k3]) (hkids : KidsAt R w [k1, k2, k3] (.slice (some ⟨kb, ko, none⟩) 3 cap) 0) (hsl : sl.length + (1 + t.size + wtL [k1, k2, k3]) + 1 ≤ 3518437208883) (hs : n + 2 * (1 + t.size + wtL [k1, k2, k3]) + 1 ≤ 3518437208883) : 
    Calls Try.prog 28 #[pt b 0, .agg #[.int .i64 10, .string t, .float .f64 x, .slice (some ⟨kb, ko, none⟩) 3 cap, .int .i64 a]] w fun e w' => e = .returned (.tuple #[]) ∧ MSLaid R sl β w B b v n xs v2 (1 + t.size + wtL [k1, k2, k3]) (stmtC n sl (.mk 10 t x [k1, k2, k3] a)) w' := by
  simp only [wtL] at hsl hs ⊢
  have hxl : xs.length = n * 4 := hM.em.own.1
  have hk0 := kp_alloc w (.cells #[.int .i64 10, .string t, .float .f64 x, .slice (some ⟨kb, ko, none⟩) 3 cap, .int .i64 a] 25)
  have hW := hM.kp hk0
  have hblk : ∀ sl' β' new v' v2' wr, MSteps R sl' β' (Wb w 10 t x (.slice (some ⟨kb, ko, none⟩) 3 cap) a) B b v n xs v2 new v' v2' wr → ∀ j, R j → wr.heap[j]? = w.heap[j]? := fun _ _ _ _ _ _ h j hj => (hW.rblock h.kept j hj).trans (hk0.block j (Nat.lt_of_lt_of_le (hM.rB j hj) hM.bs) fun e => e)
  obtain ⟨kk, kt, kx, kks, ka, e3⟩ := k3.eta
  have hk3 : ∀ sl' β' new v' v2' wr, MSteps R sl' β' (Wb w 10 t x (.slice (some ⟨kb, ko, none⟩) 3 cap) a) B b v n xs v2 new v' v2' wr → wr.cell? ⟨kb, ko + 10, none⟩ = some (.int .i64 kk) ∧ ∃ ak ck, wr.cell? ⟨kb, ko + 10 + 3, none⟩ = some (.slice ak kks.length ck) := fun _ _ _ _ _ _ h => by
    obtain ⟨c0, c1, c2, c3, c4, h0, h1, h2, h3, h4, hnd⟩ := kid_cells hM (hblk _ _ _ _ _ _ h) hkids 2 (by simp)
    rw [show 2 * 5 = 10 from rfl] at h0 h1 h2 h3 h4
    simp only [List.getElem_cons_succ, List.getElem_cons_zero] at hnd
    rw [e3] at hnd
    obtain ⟨S', e', hs', _⟩ := hnd
    simp at e'
    obtain ⟨rfl, _, _, rfl, _⟩ := e'
    obtain ⟨ak, ck, rfl, _⟩ := hs'.slice
    exact ⟨h0, ak, ck, h3⟩
  have hkk : kk = 0 := by rw [e3] at h3k; exact h3k
  have hkl : kks.length = 0 := by rw [e3] at h3l; exact h3l
  subst hkk
  rw [hkl] at hk3
  refine mstmt_10a _
    (fun j wr => ∃ ce β1 v1, MSteps R sl β1 (Wb w 10 t x (.slice (some ⟨kb, ko, none⟩) 3 cap) a) B b v n xs v2 (ce ++ ins 16 0 f0 noText) v1 v2 wr ∧ cnt ce ≤ k1.wt ∧ ce.length = cnt ce * 4 ∧ RelE (exprC sl k1) ce β β1 ∧ j = n + cnt ce)
    (fun j wr => ∃ ce p sl2 β1 β2 v1 v3, MSteps R sl2 β2 (Wb w 10 t x (.slice (some ⟨kb, ko, none⟩) 3 cap) a) B b v n xs v2 (ce ++ ins 16 0 f0 noText ++ p) v1 v3 wr ∧ cnt ce ≤ k1.wt ∧ ce.length = cnt ce * 4 ∧ cnt p ≤ 2 * k2.wt ∧ p.length = cnt p * 4 ∧ sl2.length ≤ sl.length + k2.wt ∧ RelE (exprC sl k1) ce β β1 ∧ RelS (blockC (n + cnt ce + 1) sl k2) p sl sl2 β1 β2 ∧ j = n + cnt ce)
    _ b w t x kb ko cap n a (first_kid hM rfl hok.1 hkids (by omega) (by omega)) (first_boxed hM) (fun wr ⟨ce, β1, v1, hst, hcn, hrel⟩ => ?_) (fun j wr ⟨ce, β1, v1, hst, hcn, hcl, hrel, hj⟩ => ?_) (fun j wr ⟨ce, p, sl2, β1, β2, v1, v3, hst, hcn, hcl, hpn, hpl, hs2, hrel, hrp, hj⟩ => ?_)
  · exact (mput_one hst.st (by omega) 16 0 0 noText).mono fun e w' ⟨he, v3, h3⟩ => ⟨n + cnt ce, he, ce, β1, v3, hst.trans h3, hcn, hst.len, hrel, rfl⟩
  · refine ⟨boxed_kept hM hst.kept, ?_⟩
    obtain ⟨c0, c1, c2, c3, c4, h0, h1, h2, h3, h4, hnd⟩ := kid_cells hM (hblk _ _ _ _ _ _ hst) hkids 1 (by simp)
    simp only [Nat.one_mul, List.getElem_cons_succ, List.getElem_cons_zero] at h0 h1 h2 h3 h4 hnd
    have hc1 : cnt (ce ++ ins 16 0 f0 noText) = cnt ce + 1 := by rw [cnt_add hcl, cnt_ins]
    refine ⟨c0, c1, c2, c3, c4, h0, h1, h2, h3, h4, (ih R sl β1 wr B b v1 _ _ v2 _ hst.st (hst.ones hx) hok.2.1 hnd (by omega) (by rw [hc1]; omega)).mono fun e w' ⟨he, p, sl2, β2, v3, v4, h5, hpn, hs2, hrp⟩ => ⟨he, ce, p, sl2, β1, β2, v3, v4, hst.trans h5, hcn, hcl, hpn, h5.len, hs2, hrel, ?_, hj⟩⟩
    rw [hc1, ← Nat.add_assoc] at hrp
    exact hrp
  · refine ⟨⟨boxed_kept hM hst.kept, hk3 _ _ _ _ _ _ hst⟩, ?_⟩
    have hc1 : cnt (ce ++ ins 16 0 f0 noText ++ p) = cnt ce + 1 + cnt p := by rw [cnt_add (by rw [List.length_append, cnt_add hcl, cnt_ins, hcl]; simp; omega), cnt_add hcl, cnt_ins]
    refine mshut_one hx hxl hst hcl hj (by rw [hc1]; omega) _ fun w2 h2 => ⟨_, sl2, β2, v1, v3, h2.base hk0, ?_, by omega, ?_⟩
    · rw [cnt_add (by rw [List.length_append, cnt_add hcl, cnt_ins, hcl]; simp; omega), cnt_add hcl, cnt_ins]; omega
    · rw [hc1, stmtC.eq_def]
      simp only [show ¬ (10 : Int) = 9 by decide, if_false, if_true, h3k, h3l]
      refine ⟨hrp.1, fun h => hrp.2.1 (hrel.1 h), ?_⟩
      have h1 := hrel.2
      cases hc : exprC sl k1 with
      | none => rw [hc] at h1; exact .inl (hrp.2.1 h1)
      | some c =>
        rw [hc] at h1
        obtain ⟨rfl, rfl⟩ := h1
        have h2 := hrp.2.2
        simp only [Option.bind_some]
        cases hb : blockC (n + cnt ce + 1) sl k2 with
        | none => rw [hb] at h2; exact h2
        | some q =>
          rw [hb] at h2
          obtain ⟨rfl, rfl, rfl⟩ := h2
          refine ⟨?_, rfl, rfl⟩
          simp [Nat.add_assoc]
theorem mst_10b {k1 k2 k3 : Nd} (h3k : ¬ (k3.kind = 0 ∧ k3.kids.length = 0)) (ih : MNodeOk 20 blockC k2) (ih3 : MNodeOk 20 blockC k3) (hM : Mk R sl β w B b v n xs v2) (hx : ∀ u ∈ xs, u.oneCell' = true) (hok : okL [k1, k2, k3]) (hkids : KidsAt R w [k1, k2, k3] (.slice (some ⟨kb, ko, none⟩) 3 cap) 0) (hsl : sl.length + (1 + t.size + wtL [k1, k2, k3]) + 1 ≤ 3518437208883) (hs : n + 2 * (1 + t.size + wtL [k1, k2, k3]) + 1 ≤ 3518437208883) : 
    Calls Try.prog 28 #[pt b 0, .agg #[.int .i64 10, .string t, .float .f64 x, .slice (some ⟨kb, ko, none⟩) 3 cap, .int .i64 a]] w fun e w' => e = .returned (.tuple #[]) ∧ MSLaid R sl β w B b v n xs v2 (1 + t.size + wtL [k1, k2, k3]) (stmtC n sl (.mk 10 t x [k1, k2, k3] a)) w' := by
  simp only [wtL] at hsl hs ⊢
  have hxl : xs.length = n * 4 := hM.em.own.1
  have hk0 := kp_alloc w (.cells #[.int .i64 10, .string t, .float .f64 x, .slice (some ⟨kb, ko, none⟩) 3 cap, .int .i64 a] 25)
  have hW := hM.kp hk0
  have hblk : ∀ sl' β' new v' v2' wr, MSteps R sl' β' (Wb w 10 t x (.slice (some ⟨kb, ko, none⟩) 3 cap) a) B b v n xs v2 new v' v2' wr → ∀ j, R j → wr.heap[j]? = w.heap[j]? := fun _ _ _ _ _ _ h j hj => (hW.rblock h.kept j hj).trans (hk0.block j (Nat.lt_of_lt_of_le (hM.rB j hj) hM.bs) fun e => e)
  obtain ⟨kk, kt, kx, kks, ka, e3⟩ := k3.eta
  have hk3 : ∀ sl' β' new v' v2' wr, MSteps R sl' β' (Wb w 10 t x (.slice (some ⟨kb, ko, none⟩) 3 cap) a) B b v n xs v2 new v' v2' wr → wr.cell? ⟨kb, ko + 10, none⟩ = some (.int .i64 kk) ∧ ∃ ak ck, wr.cell? ⟨kb, ko + 10 + 3, none⟩ = some (.slice ak kks.length ck) := fun _ _ _ _ _ _ h => by
    obtain ⟨c0, c1, c2, c3, c4, h0, h1, h2, h3, h4, hnd⟩ := kid_cells hM (hblk _ _ _ _ _ _ h) hkids 2 (by simp)
    rw [show 2 * 5 = 10 from rfl] at h0 h1 h2 h3 h4
    simp only [List.getElem_cons_succ, List.getElem_cons_zero] at hnd
    rw [e3] at hnd
    obtain ⟨S', e', hs', _⟩ := hnd
    simp at e'
    obtain ⟨rfl, _, _, rfl, _⟩ := e'
    obtain ⟨ak, ck, rfl, _⟩ := hs'.slice
    exact ⟨h0, ak, ck, h3⟩
  have hd : (kk == 0) = false ∨ ((kk == 0) = true ∧ ((kks.length : Int) == 0) = false) := by
    rw [e3] at h3k
    by_cases e : kk = 0
    · refine .inr ⟨by simpa using e, ?_⟩
      have : ¬ kks.length = 0 := fun h => h3k ⟨e, h⟩
      simp; intro h; exact this (by simp [h])
    · exact .inl (by simpa using e)
  have w3p := wt_pos k3
  rcases hd with hd0 | ⟨hd0, hd1⟩
  · refine mstmt_10b _
      (fun j wr => ∃ ce β1 v1, MSteps R sl β1 (Wb w 10 t x (.slice (some ⟨kb, ko, none⟩) 3 cap) a) B b v n xs v2 (ce ++ ins 16 0 f0 noText) v1 v2 wr ∧ cnt ce ≤ k1.wt ∧ ce.length = cnt ce * 4 ∧ RelE (exprC sl k1) ce β β1 ∧ j = n + cnt ce)
      (fun j wr => ∃ ce p sl2 β1 β2 v1 v3, MSteps R sl2 β2 (Wb w 10 t x (.slice (some ⟨kb, ko, none⟩) 3 cap) a) B b v n xs v2 (ce ++ ins 16 0 f0 noText ++ p) v1 v3 wr ∧ cnt ce ≤ k1.wt ∧ ce.length = cnt ce * 4 ∧ cnt p ≤ 2 * k2.wt ∧ p.length = cnt p * 4 ∧ sl2.length ≤ sl.length + k2.wt ∧ RelE (exprC sl k1) ce β β1 ∧ RelS (blockC (n + cnt ce + 1) sl k2) p sl sl2 β1 β2 ∧ j = n + cnt ce)
      (fun j i wr => ∃ ce p sl2 β1 β2 v1 v3, MSteps R sl2 β2 (Wb w 10 t x (.slice (some ⟨kb, ko, none⟩) 3 cap) a) B b v n xs v2 (ce ++ ins 16 0 f0 noText ++ (p ++ ins 15 0 f0 noText)) v1 v3 wr ∧ cnt ce ≤ k1.wt ∧ ce.length = cnt ce * 4 ∧ cnt p ≤ 2 * k2.wt ∧ p.length = cnt p * 4 ∧ sl2.length ≤ sl.length + k2.wt ∧ RelE (exprC sl k1) ce β β1 ∧ RelS (blockC (n + cnt ce + 1) sl k2) p sl sl2 β1 β2 ∧ j = n + cnt ce ∧ i = n + cnt ce + 1 + cnt p)
      (fun i wr => ∃ ce p sl2 β1 β2 v1 v3, MSteps R sl2 β2 (Wb w 10 t x (.slice (some ⟨kb, ko, none⟩) 3 cap) a) B b v n xs v2 (ce ++ ins 16 (n + cnt ce + 1 + cnt p + 1 : Nat) f0 noText ++ (p ++ ins 15 0 f0 noText)) v1 v3 wr ∧ cnt ce ≤ k1.wt ∧ ce.length = cnt ce * 4 ∧ cnt p ≤ 2 * k2.wt ∧ p.length = cnt p * 4 ∧ sl2.length ≤ sl.length + k2.wt ∧ RelE (exprC sl k1) ce β β1 ∧ RelS (blockC (n + cnt ce + 1) sl k2) p sl sl2 β1 β2 ∧ i = n + cnt ce + 1 + cnt p)
      (fun i wr => ∃ ce p q sl2 sl3 β1 β2 β3 v1 v3, MSteps R sl3 β3 (Wb w 10 t x (.slice (some ⟨kb, ko, none⟩) 3 cap) a) B b v n xs v2 (ce ++ ins 16 (n + cnt ce + 1 + cnt p + 1 : Nat) f0 noText ++ p ++ ins 15 0 f0 noText ++ q) v1 v3 wr ∧ cnt ce ≤ k1.wt ∧ ce.length = cnt ce * 4 ∧ cnt p ≤ 2 * k2.wt ∧ p.length = cnt p * 4 ∧ sl2.length ≤ sl.length + k2.wt ∧ RelE (exprC sl k1) ce β β1 ∧ RelS (blockC (n + cnt ce + 1) sl k2) p sl sl2 β1 β2 ∧ cnt q ≤ 2 * k3.wt ∧ q.length = cnt q * 4 ∧ sl3.length ≤ sl2.length + k3.wt ∧ RelS (blockC (n + cnt ce + 1 + cnt p + 1) sl2 k3) q sl2 sl3 β2 β3 ∧ i = n + cnt ce + 1 + cnt p)
      _ b w t x kb ko cap n a (first_kid hM rfl hok.1 hkids (by omega) (by omega)) (first_boxed hM) (fun wr ⟨ce, β1, v1, hst, hcn, hrel⟩ => ?_) (fun j wr ⟨ce, β1, v1, hst, hcn, hcl, hrel, hj⟩ => ?_) kk kks.length hd0 (fun j wr ⟨ce, p, sl2, β1, β2, v1, v3, hst, hcn, hcl, hpn, hpl, hs2, hrel, hrp, hj⟩ => ?_) (fun j i wr ⟨ce, p, sl2, β1, β2, v1, v3, hst, hcn, hcl, hpn, hpl, hs2, hrel, hrp, hj, hi⟩ => ?_) (fun i wr ⟨ce, p, sl2, β1, β2, v1, v3, hst, hcn, hcl, hpn, hpl, hs2, hrel, hrp, hi⟩ => ?_) (fun i wr ⟨ce, p, q, sl2, sl3, β1, β2, β3, v1, v3, hst, hcn, hcl, hpn, hpl, hs2, hrel, hrp, hqn, hql, hs3, hrq, hi⟩ => ?_)
    · exact (mput_one hst.st (by omega) 16 0 0 noText).mono fun e w' ⟨he, v3, h3⟩ => ⟨n + cnt ce, he, ce, β1, v3, hst.trans h3, hcn, hst.len, hrel, rfl⟩
    · refine ⟨boxed_kept hM hst.kept, ?_⟩
      obtain ⟨c0, c1, c2, c3, c4, h0, h1, h2, h3, h4, hnd⟩ := kid_cells hM (hblk _ _ _ _ _ _ hst) hkids 1 (by simp)
      simp only [Nat.one_mul, List.getElem_cons_succ, List.getElem_cons_zero] at h0 h1 h2 h3 h4 hnd
      have hc1 : cnt (ce ++ ins 16 0 f0 noText) = cnt ce + 1 := by rw [cnt_add hcl, cnt_ins]
      refine ⟨c0, c1, c2, c3, c4, h0, h1, h2, h3, h4, (ih R sl β1 wr B b v1 _ _ v2 _ hst.st (hst.ones hx) hok.2.1 hnd (by omega) (by rw [hc1]; omega)).mono fun e w' ⟨he, p, sl2, β2, v3, v4, h5, hpn, hs2, hrp⟩ => ⟨he, ce, p, sl2, β1, β2, v3, v4, hst.trans h5, hcn, hcl, hpn, h5.len, hs2, hrel, ?_, hj⟩⟩
      rw [hc1, ← Nat.add_assoc] at hrp
      exact hrp
    · refine ⟨⟨boxed_kept hM hst.kept, hk3 _ _ _ _ _ _ hst⟩, ?_⟩
      have hc1 : cnt (ce ++ ins 16 0 f0 noText ++ p) = cnt ce + 1 + cnt p := by rw [cnt_add (by rw [List.length_append, cnt_add hcl, cnt_ins, hcl]; simp; omega), cnt_add hcl, cnt_ins]
      refine (mput_one hst.st (by rw [hc1]; omega) 15 0 0 noText).mono fun e w' ⟨he, v4, h4⟩ => ⟨n + cnt (ce ++ ins 16 0 f0 noText ++ p), he, ce, p, sl2, β1, β2, v4, v3, ?_, hcn, hcl, hpn, hpl, hs2, hrel, hrp, hj, by rw [hc1]; omega⟩
      have := hst.trans h4
      rwa [List.append_assoc] at this
    · have hc1 : cnt (ce ++ ins 16 0 f0 noText ++ (p ++ ins 15 0 f0 noText)) = cnt ce + 1 + (cnt p + 1) := by rw [cnt_add (by rw [List.length_append, cnt_add hcl, cnt_ins, hcl]; simp; omega), cnt_add hcl, cnt_add hpl, cnt_ins, cnt_ins]
      refine mshut_one hx hxl hst hcl hj (by rw [hc1]; omega) ((fun i wr => ∃ ce p sl2 β1 β2 v1 v3, MSteps R sl2 β2 (Wb w 10 t x (.slice (some ⟨kb, ko, none⟩) 3 cap) a) B b v n xs v2 (ce ++ ins 16 (n + cnt ce + 1 + cnt p + 1 : Nat) f0 noText ++ (p ++ ins 15 0 f0 noText)) v1 v3 wr ∧ cnt ce ≤ k1.wt ∧ ce.length = cnt ce * 4 ∧ cnt p ≤ 2 * k2.wt ∧ p.length = cnt p * 4 ∧ sl2.length ≤ sl.length + k2.wt ∧ RelE (exprC sl k1) ce β β1 ∧ RelS (blockC (n + cnt ce + 1) sl k2) p sl sl2 β1 β2 ∧ i = n + cnt ce + 1 + cnt p) i) fun w2 h2 => ⟨ce, p, sl2, β1, β2, v1, v3, ?_, hcn, hcl, hpn, hpl, hs2, hrel, hrp, hi⟩
      rw [hc1, show n + (cnt ce + 1 + (cnt p + 1)) = n + cnt ce + 1 + cnt p + 1 by omega] at h2
      exact h2
    · refine ⟨boxed_kept hM hst.kept, ?_⟩
      obtain ⟨c0, c1, c2, c3, c4, h0, h1, h2, h3, h4, hnd⟩ := kid_cells hM (hblk _ _ _ _ _ _ hst) hkids 2 (by simp)
      rw [show 2 * 5 = 10 from rfl] at h0 h1 h2 h3 h4
      simp only [List.getElem_cons_succ, List.getElem_cons_zero] at hnd
      have hc1 : cnt (ce ++ ins 16 (n + cnt ce + 1 + cnt p + 1 : Nat) f0 noText ++ (p ++ ins 15 0 f0 noText)) = cnt ce + 1 + (cnt p + 1) := by rw [cnt_add (by rw [List.length_append, cnt_add hcl, cnt_ins, hcl]; simp; omega), cnt_add hcl, cnt_add hpl, cnt_ins, cnt_ins]
      refine ⟨c0, c1, c2, c3, c4, h0, h1, h2, h3, h4, (ih3 R sl2 β2 wr B b v1 _ _ v3 _ hst.st (hst.ones hx) hok.2.2.1 hnd (by omega) (by rw [hc1]; omega)).mono fun e w' ⟨he, q, sl3, β3, v4, v5, h5, hqn, hs3, hrq⟩ => ⟨he, ce, p, q, sl2, sl3, β1, β2, β3, v4, v5, ?_, hcn, hcl, hpn, hpl, hs2, hrel, hrp, hqn, h5.len, hs3, ?_, hi⟩⟩
      · have := hst.trans h5
        simp only [← List.append_assoc] at this
        exact this
      · rw [hc1, show n + (cnt ce + 1 + (cnt p + 1)) = n + cnt ce + 1 + cnt p + 1 by omega] at hrq
        exact hrq
    · have hcl3 : (ce ++ ins 16 (n + cnt ce + 1 + cnt p + 1 : Nat) f0 noText ++ p).length = cnt (ce ++ ins 16 (n + cnt ce + 1 + cnt p + 1 : Nat) f0 noText ++ p) * 4 := by rw [cnt_add (by rw [List.length_append, cnt_add hcl, cnt_ins, hcl]; simp; omega), cnt_add hcl, cnt_ins]; simp; omega
      have hc3 : cnt (ce ++ ins 16 (n + cnt ce + 1 + cnt p + 1 : Nat) f0 noText ++ p) = cnt ce + 1 + cnt p := by rw [cnt_add (by rw [List.length_append, cnt_add hcl, cnt_ins, hcl]; simp; omega), cnt_add hcl, cnt_ins]
      have hcz : ∀ z : Int, cnt (ce ++ ins 16 (n + cnt ce + 1 + cnt p + 1 : Nat) f0 noText ++ p ++ ins 15 z f0 noText ++ q) = cnt ce + 1 + cnt p + 1 + cnt q := fun z => by
        rw [cnt_add (by rw [List.length_append, cnt_add hcl3, cnt_ins, hcl3]; simp; omega), cnt_add hcl3, hc3, cnt_ins]
      refine mshut_one hx hxl hst hcl3 (by rw [hc3]; omega) (by rw [hcz]; omega) _ fun w2 h2 => ⟨_, sl3, β3, v1, v3, h2.base hk0, by rw [hcz]; omega, by omega, ?_⟩
      rw [hcz, stmtC.eq_def]
      simp only [show ¬ (10 : Int) = 9 by decide, if_false, if_true]
      refine ⟨Nat.le_trans hrp.1 hrq.1, fun h => hrq.2.1 (hrp.2.1 (hrel.1 h)), ?_⟩
      have h1 := hrel.2
      cases hc : exprC sl k1 with
      | none => rw [hc] at h1; exact .inl (hrq.2.1 (hrp.2.1 h1))
      | some c =>
        rw [hc] at h1
        obtain ⟨rfl, rfl⟩ := h1
        have h2 := hrp.2.2
        simp only [Option.bind_some]
        cases hb : blockC (n + cnt ce + 1) sl k2 with
        | none =>
          rw [hb] at h2
          rcases h2 with h2 | h2
          · exact .inl (hrq.2.1 h2)
          · exact .inr (Nat.lt_of_lt_of_le h2 hrq.1)
        | some pp =>
          rw [hb] at h2
          obtain ⟨rfl, rfl, rfl⟩ := h2
          have h3 := hrq.2.2
          simp only [Option.bind_some]
          by_cases hk0' : k3.kind = 0
          · have hbn : blockC (n + cnt ce + 1 + cnt pp.1 + 1) pp.2 k3 = none := by
              rw [e3] at hk0' ⊢
              rw [blockC, if_neg (by rw [show kk = 0 from hk0']; decide)]
            rw [if_pos hk0', if_neg fun h => h3k ⟨hk0', h⟩]
            rw [hbn] at h3
            exact h3
          · rw [if_neg hk0']
            cases hq : blockC (n + cnt ce + 1 + cnt pp.1 + 1) pp.2 k3 with
            | none => rw [hq] at h3; exact h3
            | some qq =>
              rw [hq] at h3
              obtain ⟨rfl, rfl, rfl⟩ := h3
              refine ⟨?_, rfl, rfl⟩
              simp [Nat.add_assoc]
  · refine mstmt_10c _
      (fun j wr => ∃ ce β1 v1, MSteps R sl β1 (Wb w 10 t x (.slice (some ⟨kb, ko, none⟩) 3 cap) a) B b v n xs v2 (ce ++ ins 16 0 f0 noText) v1 v2 wr ∧ cnt ce ≤ k1.wt ∧ ce.length = cnt ce * 4 ∧ RelE (exprC sl k1) ce β β1 ∧ j = n + cnt ce)
      (fun j wr => ∃ ce p sl2 β1 β2 v1 v3, MSteps R sl2 β2 (Wb w 10 t x (.slice (some ⟨kb, ko, none⟩) 3 cap) a) B b v n xs v2 (ce ++ ins 16 0 f0 noText ++ p) v1 v3 wr ∧ cnt ce ≤ k1.wt ∧ ce.length = cnt ce * 4 ∧ cnt p ≤ 2 * k2.wt ∧ p.length = cnt p * 4 ∧ sl2.length ≤ sl.length + k2.wt ∧ RelE (exprC sl k1) ce β β1 ∧ RelS (blockC (n + cnt ce + 1) sl k2) p sl sl2 β1 β2 ∧ j = n + cnt ce)
      (fun j i wr => ∃ ce p sl2 β1 β2 v1 v3, MSteps R sl2 β2 (Wb w 10 t x (.slice (some ⟨kb, ko, none⟩) 3 cap) a) B b v n xs v2 (ce ++ ins 16 0 f0 noText ++ (p ++ ins 15 0 f0 noText)) v1 v3 wr ∧ cnt ce ≤ k1.wt ∧ ce.length = cnt ce * 4 ∧ cnt p ≤ 2 * k2.wt ∧ p.length = cnt p * 4 ∧ sl2.length ≤ sl.length + k2.wt ∧ RelE (exprC sl k1) ce β β1 ∧ RelS (blockC (n + cnt ce + 1) sl k2) p sl sl2 β1 β2 ∧ j = n + cnt ce ∧ i = n + cnt ce + 1 + cnt p)
      (fun i wr => ∃ ce p sl2 β1 β2 v1 v3, MSteps R sl2 β2 (Wb w 10 t x (.slice (some ⟨kb, ko, none⟩) 3 cap) a) B b v n xs v2 (ce ++ ins 16 (n + cnt ce + 1 + cnt p + 1 : Nat) f0 noText ++ (p ++ ins 15 0 f0 noText)) v1 v3 wr ∧ cnt ce ≤ k1.wt ∧ ce.length = cnt ce * 4 ∧ cnt p ≤ 2 * k2.wt ∧ p.length = cnt p * 4 ∧ sl2.length ≤ sl.length + k2.wt ∧ RelE (exprC sl k1) ce β β1 ∧ RelS (blockC (n + cnt ce + 1) sl k2) p sl sl2 β1 β2 ∧ i = n + cnt ce + 1 + cnt p)
      (fun i wr => ∃ ce p q sl2 sl3 β1 β2 β3 v1 v3, MSteps R sl3 β3 (Wb w 10 t x (.slice (some ⟨kb, ko, none⟩) 3 cap) a) B b v n xs v2 (ce ++ ins 16 (n + cnt ce + 1 + cnt p + 1 : Nat) f0 noText ++ p ++ ins 15 0 f0 noText ++ q) v1 v3 wr ∧ cnt ce ≤ k1.wt ∧ ce.length = cnt ce * 4 ∧ cnt p ≤ 2 * k2.wt ∧ p.length = cnt p * 4 ∧ sl2.length ≤ sl.length + k2.wt ∧ RelE (exprC sl k1) ce β β1 ∧ RelS (blockC (n + cnt ce + 1) sl k2) p sl sl2 β1 β2 ∧ cnt q ≤ 2 * k3.wt ∧ q.length = cnt q * 4 ∧ sl3.length ≤ sl2.length + k3.wt ∧ RelS (blockC (n + cnt ce + 1 + cnt p + 1) sl2 k3) q sl2 sl3 β2 β3 ∧ i = n + cnt ce + 1 + cnt p)
      _ b w t x kb ko cap n a (first_kid hM rfl hok.1 hkids (by omega) (by omega)) (first_boxed hM) (fun wr ⟨ce, β1, v1, hst, hcn, hrel⟩ => ?_) (fun j wr ⟨ce, β1, v1, hst, hcn, hcl, hrel, hj⟩ => ?_) kk kks.length hd0 hd1 (fun j wr ⟨ce, p, sl2, β1, β2, v1, v3, hst, hcn, hcl, hpn, hpl, hs2, hrel, hrp, hj⟩ => ?_) (fun j i wr ⟨ce, p, sl2, β1, β2, v1, v3, hst, hcn, hcl, hpn, hpl, hs2, hrel, hrp, hj, hi⟩ => ?_) (fun i wr ⟨ce, p, sl2, β1, β2, v1, v3, hst, hcn, hcl, hpn, hpl, hs2, hrel, hrp, hi⟩ => ?_) (fun i wr ⟨ce, p, q, sl2, sl3, β1, β2, β3, v1, v3, hst, hcn, hcl, hpn, hpl, hs2, hrel, hrp, hqn, hql, hs3, hrq, hi⟩ => ?_)
    · exact (mput_one hst.st (by omega) 16 0 0 noText).mono fun e w' ⟨he, v3, h3⟩ => ⟨n + cnt ce, he, ce, β1, v3, hst.trans h3, hcn, hst.len, hrel, rfl⟩
    · refine ⟨boxed_kept hM hst.kept, ?_⟩
      obtain ⟨c0, c1, c2, c3, c4, h0, h1, h2, h3, h4, hnd⟩ := kid_cells hM (hblk _ _ _ _ _ _ hst) hkids 1 (by simp)
      simp only [Nat.one_mul, List.getElem_cons_succ, List.getElem_cons_zero] at h0 h1 h2 h3 h4 hnd
      have hc1 : cnt (ce ++ ins 16 0 f0 noText) = cnt ce + 1 := by rw [cnt_add hcl, cnt_ins]
      refine ⟨c0, c1, c2, c3, c4, h0, h1, h2, h3, h4, (ih R sl β1 wr B b v1 _ _ v2 _ hst.st (hst.ones hx) hok.2.1 hnd (by omega) (by rw [hc1]; omega)).mono fun e w' ⟨he, p, sl2, β2, v3, v4, h5, hpn, hs2, hrp⟩ => ⟨he, ce, p, sl2, β1, β2, v3, v4, hst.trans h5, hcn, hcl, hpn, h5.len, hs2, hrel, ?_, hj⟩⟩
      rw [hc1, ← Nat.add_assoc] at hrp
      exact hrp
    · refine ⟨⟨boxed_kept hM hst.kept, hk3 _ _ _ _ _ _ hst⟩, ?_⟩
      have hc1 : cnt (ce ++ ins 16 0 f0 noText ++ p) = cnt ce + 1 + cnt p := by rw [cnt_add (by rw [List.length_append, cnt_add hcl, cnt_ins, hcl]; simp; omega), cnt_add hcl, cnt_ins]
      refine (mput_one hst.st (by rw [hc1]; omega) 15 0 0 noText).mono fun e w' ⟨he, v4, h4⟩ => ⟨n + cnt (ce ++ ins 16 0 f0 noText ++ p), he, ce, p, sl2, β1, β2, v4, v3, ?_, hcn, hcl, hpn, hpl, hs2, hrel, hrp, hj, by rw [hc1]; omega⟩
      have := hst.trans h4
      rwa [List.append_assoc] at this
    · have hc1 : cnt (ce ++ ins 16 0 f0 noText ++ (p ++ ins 15 0 f0 noText)) = cnt ce + 1 + (cnt p + 1) := by rw [cnt_add (by rw [List.length_append, cnt_add hcl, cnt_ins, hcl]; simp; omega), cnt_add hcl, cnt_add hpl, cnt_ins, cnt_ins]
      refine mshut_one hx hxl hst hcl hj (by rw [hc1]; omega) ((fun i wr => ∃ ce p sl2 β1 β2 v1 v3, MSteps R sl2 β2 (Wb w 10 t x (.slice (some ⟨kb, ko, none⟩) 3 cap) a) B b v n xs v2 (ce ++ ins 16 (n + cnt ce + 1 + cnt p + 1 : Nat) f0 noText ++ (p ++ ins 15 0 f0 noText)) v1 v3 wr ∧ cnt ce ≤ k1.wt ∧ ce.length = cnt ce * 4 ∧ cnt p ≤ 2 * k2.wt ∧ p.length = cnt p * 4 ∧ sl2.length ≤ sl.length + k2.wt ∧ RelE (exprC sl k1) ce β β1 ∧ RelS (blockC (n + cnt ce + 1) sl k2) p sl sl2 β1 β2 ∧ i = n + cnt ce + 1 + cnt p) i) fun w2 h2 => ⟨ce, p, sl2, β1, β2, v1, v3, ?_, hcn, hcl, hpn, hpl, hs2, hrel, hrp, hi⟩
      rw [hc1, show n + (cnt ce + 1 + (cnt p + 1)) = n + cnt ce + 1 + cnt p + 1 by omega] at h2
      exact h2
    · refine ⟨boxed_kept hM hst.kept, ?_⟩
      obtain ⟨c0, c1, c2, c3, c4, h0, h1, h2, h3, h4, hnd⟩ := kid_cells hM (hblk _ _ _ _ _ _ hst) hkids 2 (by simp)
      rw [show 2 * 5 = 10 from rfl] at h0 h1 h2 h3 h4
      simp only [List.getElem_cons_succ, List.getElem_cons_zero] at hnd
      have hc1 : cnt (ce ++ ins 16 (n + cnt ce + 1 + cnt p + 1 : Nat) f0 noText ++ (p ++ ins 15 0 f0 noText)) = cnt ce + 1 + (cnt p + 1) := by rw [cnt_add (by rw [List.length_append, cnt_add hcl, cnt_ins, hcl]; simp; omega), cnt_add hcl, cnt_add hpl, cnt_ins, cnt_ins]
      refine ⟨c0, c1, c2, c3, c4, h0, h1, h2, h3, h4, (ih3 R sl2 β2 wr B b v1 _ _ v3 _ hst.st (hst.ones hx) hok.2.2.1 hnd (by omega) (by rw [hc1]; omega)).mono fun e w' ⟨he, q, sl3, β3, v4, v5, h5, hqn, hs3, hrq⟩ => ⟨he, ce, p, q, sl2, sl3, β1, β2, β3, v4, v5, ?_, hcn, hcl, hpn, hpl, hs2, hrel, hrp, hqn, h5.len, hs3, ?_, hi⟩⟩
      · have := hst.trans h5
        simp only [← List.append_assoc] at this
        exact this
      · rw [hc1, show n + (cnt ce + 1 + (cnt p + 1)) = n + cnt ce + 1 + cnt p + 1 by omega] at hrq
        exact hrq
    · have hcl3 : (ce ++ ins 16 (n + cnt ce + 1 + cnt p + 1 : Nat) f0 noText ++ p).length = cnt (ce ++ ins 16 (n + cnt ce + 1 + cnt p + 1 : Nat) f0 noText ++ p) * 4 := by rw [cnt_add (by rw [List.length_append, cnt_add hcl, cnt_ins, hcl]; simp; omega), cnt_add hcl, cnt_ins]; simp; omega
      have hc3 : cnt (ce ++ ins 16 (n + cnt ce + 1 + cnt p + 1 : Nat) f0 noText ++ p) = cnt ce + 1 + cnt p := by rw [cnt_add (by rw [List.length_append, cnt_add hcl, cnt_ins, hcl]; simp; omega), cnt_add hcl, cnt_ins]
      have hcz : ∀ z : Int, cnt (ce ++ ins 16 (n + cnt ce + 1 + cnt p + 1 : Nat) f0 noText ++ p ++ ins 15 z f0 noText ++ q) = cnt ce + 1 + cnt p + 1 + cnt q := fun z => by
        rw [cnt_add (by rw [List.length_append, cnt_add hcl3, cnt_ins, hcl3]; simp; omega), cnt_add hcl3, hc3, cnt_ins]
      refine mshut_one hx hxl hst hcl3 (by rw [hc3]; omega) (by rw [hcz]; omega) _ fun w2 h2 => ⟨_, sl3, β3, v1, v3, h2.base hk0, by rw [hcz]; omega, by omega, ?_⟩
      rw [hcz, stmtC.eq_def]
      simp only [show ¬ (10 : Int) = 9 by decide, if_false, if_true]
      refine ⟨Nat.le_trans hrp.1 hrq.1, fun h => hrq.2.1 (hrp.2.1 (hrel.1 h)), ?_⟩
      have h1 := hrel.2
      cases hc : exprC sl k1 with
      | none => rw [hc] at h1; exact .inl (hrq.2.1 (hrp.2.1 h1))
      | some c =>
        rw [hc] at h1
        obtain ⟨rfl, rfl⟩ := h1
        have h2 := hrp.2.2
        simp only [Option.bind_some]
        cases hb : blockC (n + cnt ce + 1) sl k2 with
        | none =>
          rw [hb] at h2
          rcases h2 with h2 | h2
          · exact .inl (hrq.2.1 h2)
          · exact .inr (Nat.lt_of_lt_of_le h2 hrq.1)
        | some pp =>
          rw [hb] at h2
          obtain ⟨rfl, rfl, rfl⟩ := h2
          have h3 := hrq.2.2
          simp only [Option.bind_some]
          by_cases hk0' : k3.kind = 0
          · have hbn : blockC (n + cnt ce + 1 + cnt pp.1 + 1) pp.2 k3 = none := by
              rw [e3] at hk0' ⊢
              rw [blockC, if_neg (by rw [show kk = 0 from hk0']; decide)]
            rw [if_pos hk0', if_neg fun h => h3k ⟨hk0', h⟩]
            rw [hbn] at h3
            exact h3
          · rw [if_neg hk0']
            cases hq : blockC (n + cnt ce + 1 + cnt pp.1 + 1) pp.2 k3 with
            | none => rw [hq] at h3; exact h3
            | some qq =>
              rw [hq] at h3
              obtain ⟨rfl, rfl, rfl⟩ := h3
              refine ⟨?_, rfl, rfl⟩
              simp [Nat.add_assoc]
end
end Go.Proofs.Ytfkgfibmhhlemaa
namespace Go.Proofs.Ytfkgfibmhhlemaa
open Go.RowKit Go.Maps Go.WideMaps
theorem strV_of (t : ByteArray) : strV t.toList = .string t := by
  unfold strV
  rw [ByteArray.toList_eq]
section
variable {R : Nat → Prop} {sl sl1 sl2 : List (List UInt8)} {β β1 β2 : Bool} {w w1 w2 : World} {B b n : Nat} {v v1 v' : Value} {xs new new2 : List Value} {v2 v3 v4 : Value} {K : Int} {t : ByteArray} {x : Nat} {ao : Option Addr} {kb ko cap : Nat} {a : Int} {ks : List Nd}
theorem MSteps.addname {wr w3 : World} (h : Mk R sl β wr B b v n xs v2) (hown3 : w3.ownsRow B 9 1 v3 (sl.length + 1) (sl.map strV ++ [.string t])) (hg : ((wr.alloc (.cells #[.string t] 9)).drew).grownBy w3 v2.ownBlock) (hfr : ∀ k, v3.ownBlock = some k → v2.ownBlock = some k ∨ (wr.alloc (.cells #[.string t] 9)).heap.size ≤ k) :
    MSteps R (sl ++ [t.toList]) β wr B b v n xs v2 [] v v3 (w3.setCell ⟨b, 1, none⟩ v3) := by
  have hblk : ∀ k, k < wr.heap.size → v2.ownBlock ≠ some k → w3.heap[k]? = wr.heap[k]? := fun k hk hne => (hg.block k (by show k < (wr.alloc _).heap.size; simp; omega) fun e => hne e.symm).trans (heap_alloc_old wr _ hk)
  have hset : ∀ k, k ≠ b → (w3.setCell ⟨b, 1, none⟩ v3).heap[k]? = w3.heap[k]? := fun k hk => by simp [World.setCell, Array.getElem?_modify, hk.symm]
  have hb := hblk b h.lt h.nne
  have hsz : (wr.alloc (.cells #[.string t] 9)).heap.size = wr.heap.size + 1 := by simp
  rw [hsz] at hfr
  have hcode : ∀ k, v.ownBlock = some k → (w3.setCell ⟨b, 1, none⟩ v3).heap[k]? = wr.heap[k]? := fun k e => (hset k fun e2 => h.em.ne (by rw [e, e2])).trans (hblk k (h.vlt e) (h.apart k e))
  have hv3b : v3.ownBlock ≠ some b := fun e => by
    rcases hfr b e with e | e
    · exact h.nne e
    · have := h.lt; omega
  refine ⟨⟨⟨?_, ?_, ?_, h.em.ne⟩, h.rB, h.bb, World.cell?_setCell_same _ _ _ ((World.cell?_of_block hb).trans h.names), ?_, hv3b, fun k e e2 => ?_, ?_, ?_, ?_⟩, rfl, by simp, ⟨hg.os, hg.tape, hg.output, ?_, fun k hk hS => ?_⟩, fun _ h => .inl h, fun k e => ?_⟩
  · exact (World.cell?_setCell_other _ _ _ _ (by simp)).trans ((World.cell?_of_block hb).trans h.em.cell)
  · rw [World.frozen?_setCell]; exact (World.frozen?_of_block hb).trans h.em.fz
  · simpa [cnt] using own_heap h.em.own (Nat.le_refl _) hcode
  · rw [List.map_append, List.length_append]
    simp only [List.map_cons, List.map_nil, strV_of]
    exact own_heap hown3 (Nat.le_refl _) fun k e => hset k fun e2 => hv3b (by rw [e, e2])
  · rcases hfr k e2 with e3 | e3
    · exact h.apart k e e3
    · have := h.vlt e; omega
  · exact (World.cell?_setCell_other _ _ _ _ (by simp)).trans ((World.cell?_of_block hb).trans h.bad)
  · rw [World.frozen?_setCell]; exact (World.frozen?_of_block hb).trans h.z1
  · rw [World.frozen?_setCell]; exact (World.frozen?_of_block hb).trans h.z2
  · have := hg.size
    have h2 : wr.heap.size + 1 ≤ w3.heap.size := by rw [← hsz]; exact this
    show wr.heap.size ≤ (w3.setCell _ _).heap.size
    simp [World.setCell]; omega
  · exact (hset k fun e => hS (.inl e)).trans (hblk k hk fun e => hS (.inr (.inr e)))
  · rcases hfr k e with e | e
    · exact .inl e
    · exact .inr (by omega)
theorem mst_9 {k1 : Nd} (hM : Mk R sl β w B b v n xs v2) (_hx : ∀ u ∈ xs, u.oneCell' = true) (hok : okL [k1]) (hkids : KidsAt R w [k1] (.slice (some ⟨kb, ko, none⟩) 1 cap) 0) (hsl : sl.length + (1 + t.size + wtL [k1]) + 1 ≤ 3518437208883) (hs : n + 2 * (1 + t.size + wtL [k1]) + 1 ≤ 3518437208883) :
    Calls Try.prog 28 #[pt b 0, .agg #[.int .i64 9, .string t, .float .f64 x, .slice (some ⟨kb, ko, none⟩) 1 cap, .int .i64 a]] w fun e w' => e = .returned (.tuple #[]) ∧ MSLaid R sl β w B b v n xs v2 (1 + t.size + wtL [k1]) (stmtC n sl (.mk 9 t x [k1] a)) w' := by
  simp only [wtL] at hsl hs ⊢
  have hk0 := kp_alloc w (.cells #[.int .i64 9, .string t, .float .f64 x, .slice (some ⟨kb, ko, none⟩) 1 cap, .int .i64 a] 25)
  have hsg := slot_sign sl t.toList
  rw [stmtC.eq_def]
  simp only [if_true]
  cases hso : slotOf sl t.toList with
  | some i =>
    rw [hso] at hsg
    refine mstmt_9a _ _ b w t x kb ko cap n a (first_kid hM rfl hok.1 hkids (by omega) (by omega)) (first_boxed hM) i hsg (fun wr ⟨new, β1, v1, hst, hcn, hrel⟩ => ?_) fun wr ⟨new, β1, v1, hst, hcn, hrel⟩ => ?_
    · have := mslot_any B b sl v2 t wr hst.st.names hst.st.nown (by omega)
      rw [hso] at this
      exact this
    · refine (mput_one hst.st (by omega) 4 i 0 noText).mono fun e w' ⟨he, v3, h3⟩ => ⟨⟨_, he⟩, new ++ ins 4 i f0 noText, sl, β1, v3, v2, (hst.trans h3).base hk0, by rw [cnt_add hst.len, cnt_ins]; omega, by omega, ?_⟩
      have := hrel.toS (sl := sl) (i := ins 4 i f0 noText)
      have hsc : setC sl t.toList = some (i, sl) := by unfold setC; rw [hso]
      rw [hsc]
      cases hc : exprC sl k1 with
      | none => rw [hc] at this; exact this
      | some c => rw [hc] at this; exact this
  | none =>
    rw [hso] at hsg
    have hnew : slotOf (sl ++ [t.toList]) t.toList = some (sl.length : Int) := by rw [slotOf_new hso]; simp
    refine mstmt_9b _ _ b w t x kb ko cap n a (first_kid hM rfl hok.1 hkids (by omega) (by omega)) (first_boxed hM) B
      (fun wn => ∃ new β1 v1 v3, MSteps R (sl ++ [t.toList]) β1 (Wb w 9 t x (.slice (some ⟨kb, ko, none⟩) 1 cap) a) B b v n xs v2 new v1 v3 wn ∧ cnt new ≤ k1.wt ∧ RelE (exprC sl k1) new β β1)
      _ sl.length hsg (fun wr ⟨new, β1, v1, hst, hcn, hrel⟩ => ?_) (fun wr ⟨new, β1, v1, hst, hcn, hrel⟩ => ?_) (fun wr ⟨new, β1, v1, v3, hst, _⟩ => boxed_kept hM hst.kept) (fun wr ⟨new, β1, v1, v3, hst, _⟩ => ?_) fun wr ⟨new, β1, v1, v3, hst, hcn, hrel⟩ => ?_
    · have := mslot_any B b sl v2 t wr hst.st.names hst.st.nown (by omega)
      rw [hso] at this
      exact this
    · refine ⟨v2, sl.length, sl.map strV, hst.st.names, hst.st.z1, hst.st.nown, hst.st.bs, hst.st.lt, hst.st.nne, by unfold maxLen; omega, Nat.le_trans (Nat.mul_le_mul_right 16 (show sl.length + 1 ≤ 3518437208883 by omega)) (by decide), fun v3 w3 h1 h2 h3 => ?_⟩
      have := hst.trans (MSteps.addname hst.st h1 h2 h3)
      rw [List.append_nil] at this
      exact ⟨new, β1, v1, v3, this, hcn, hrel⟩
    · have := mslot_any B b (sl ++ [t.toList]) v3 t wr hst.st.names hst.st.nown (by simp; omega)
      rw [hnew] at this
      exact this
    · refine (mput_one hst.st (by omega) 4 sl.length 0 noText).mono fun e w' ⟨he, v4, h4⟩ => ⟨⟨_, he⟩, new ++ ins 4 sl.length f0 noText, sl ++ [t.toList], β1, v4, v3, (hst.trans h4).base hk0, by rw [cnt_add hst.len, cnt_ins]; omega, by simp; omega, ?_⟩
      refine ⟨by simp, hrel.1, ?_⟩
      have h1 := hrel.2
      cases hc : exprC sl k1 with
      | none => rw [hc] at h1; exact .inl h1
      | some c =>
        rw [hc] at h1
        obtain ⟨rfl, rfl⟩ := h1
        simp only [Option.bind_some]
        by_cases hl : sl.length < 64
        · have hsc : setC sl t.toList = some ((sl.length : Int), sl ++ [t.toList]) := by unfold setC; rw [hso]; simp [hl]
          rw [hsc]
          simp
        · have hsc : setC sl t.toList = none := by unfold setC; rw [hso]; simp [hl]
          rw [hsc]
          exact .inr (by simp; omega)
theorem mst_node (k : Int) (t : ByteArray) (x : Nat) (ks : List Nd) (a : Int) (ih : ∀ i (h : i < ks.length), MNodeOk 20 blockC ks[i]) : MNodeOk 28 stmtC (.mk k t x ks a) := by
  intro R sl β w B b v n xs v2 V hM hx hok hV hsl hs
  obtain ⟨S, rfl, hlen, hkids⟩ := hV
  obtain ⟨ao, cap, rfl⟩ : ∃ ao cap, S = .slice ao ks.length cap := by obtain ⟨ao, cap, h, _⟩ := hlen.slice; exact ⟨ao, cap, h⟩
  rw [Nd.wt] at hs hsl ⊢
  have hb : ∀ c : Int, k ≠ c → (c == k) = false := fun c h => by simpa using fun e => h e.symm
  by_cases hk : k = 9 ∨ k = 10 ∨ k = 11 ∨ k = 12 ∨ k = 13
  · obtain ⟨many, hmany, hko⟩ : ∃ many : Nat, ((k = 9 ∧ many = 1) ∨ (k = 10 ∧ many = 3) ∨ (k = 11 ∧ many = 2) ∨ (k = 12 ∧ many = 1) ∨ (k = 13 ∧ many = 1)) ∧ kidsOf kidsS k = some (many : Int) := by
      rcases hk with rfl | rfl | rfl | rfl | rfl
      · exact ⟨1, by simp, rfl⟩
      · exact ⟨3, by simp, rfl⟩
      · exact ⟨2, by simp, rfl⟩
      · exact ⟨1, by simp, rfl⟩
      · exact ⟨1, by simp, rfl⟩
    by_cases hl : ks.length = many
    · rcases hmany with ⟨rfl, rfl⟩ | ⟨rfl, rfl⟩ | ⟨rfl, rfl⟩ | ⟨rfl, rfl⟩ | ⟨rfl, rfl⟩
      all_goals obtain ⟨kb, ko, cap', e, _⟩ := hlen.some (by omega); injection e with e1 e2 e3; subst e1
      · match ks, hl with
        | [k1], _ => exact mst_9 hM hx hok.2 hkids hsl hs
      · match ks, hl, ih with
        | [k1, k2, k3], _, ih =>
          by_cases h3 : k3.kind = 0 ∧ k3.kids.length = 0
          · exact mst_10a h3.1 h3.2 (ih 1 (by simp)) hM hx hok.2 hkids hsl hs
          · exact mst_10b h3 (ih 1 (by simp)) (ih 2 (by simp)) hM hx hok.2 hkids hsl hs
      · match ks, hl, ih with
        | [k1, k2], _, ih => exact mst_11 (ih 1 (by simp)) hM hx hok.2 hkids hsl hs
      · match ks, hl with
        | [k1], _ => exact mst_12 hM hx hok.2 hkids hsl hs
      · match ks, hl with
        | [k1], _ => exact mst_13 hM hx hok.2 hkids hsl hs
    · exact mstmt_bad hM hok.1 (.inr ⟨many, hko, by simp; omega⟩) (stmtC_many n sl t x ks a k many hmany hl) _
  · have h9 : k ≠ 9 := fun e => hk (.inl e)
    have h10 : k ≠ 10 := fun e => hk (.inr (.inl e))
    have h11 : k ≠ 11 := fun e => hk (.inr (.inr (.inl e)))
    have h12 : k ≠ 12 := fun e => hk (.inr (.inr (.inr (.inl e))))
    have h13 : k ≠ 13 := fun e => hk (.inr (.inr (.inr (.inr e))))
    refine mstmt_bad hM hok.1 (.inl ?_) (by rw [stmtC.eq_def]; simp only [h9, h10, h11, h12, h13, if_false]) _
    simp only [kidsOf, kidsS, List.foldl_cons, List.foldl_nil, hb 9 h9, hb 10 h10, hb 11 h11, hb 12 h12, hb 13 h13, cond_false]
end
end Go.Proofs.Ytfkgfibmhhlemaa
namespace Go.Proofs.Ytfkgfibmhhlemaa
open Go.RowKit Go.Maps Go.WideMaps
theorem wtL_take1 : ∀ (l : List Nd) (k : Nat) (h : k < l.length), wtL (l.take (k + 1)) = wtL (l.take k) + l[k].wt
  | x :: r, 0, _ => by simp [wtL]
  | x :: r, k + 1, h => by simp only [List.take_succ_cons, wtL, List.getElem_cons_succ]; rw [wtL_take1 r k (by simpa using h)]; omega
section
variable {R : Nat → Prop} {sl sl1 sl2 : List (List UInt8)} {β β1 β2 : Bool} {w w1 w2 : World} {B b n : Nat} {v v1 v' : Value} {xs new new2 : List Value} {v2 v3 v4 : Value} {K : Int} {t : ByteArray} {x : Nat} {ao : Option Addr} {kb ko cap : Nat} {a : Int} {ks : List Nd}
/-- statements in a row -/
theorem RelS.step {k : Nat} (hk : k < ks.length) (h1 : RelS (stmtL n sl (ks.take k)) new sl sl1 β β1) (h2 : RelS (stmtC (n + cnt new) sl1 ks[k]) new2 sl1 sl2 β1 β2) : RelS (stmtL n sl (ks.take (k + 1))) (new ++ new2) sl sl2 β β2 := by
  refine ⟨Nat.le_trans h1.1 h2.1, fun h => h2.2.1 (h1.2.1 h), ?_⟩
  rw [stmtL_take ks n sl k hk]
  have e1 := h1.2.2
  have e2 := h2.2.2
  cases ha : stmtL n sl (ks.take k) with
  | none =>
    rw [ha] at e1
    rcases e1 with e1 | e1
    · exact .inl (h2.2.1 e1)
    · exact .inr (Nat.lt_of_lt_of_le e1 h2.1)
  | some p =>
    rw [ha] at e1
    obtain ⟨rfl, rfl, rfl⟩ := e1
    simp only [Option.bind_some]
    cases hb : stmtC (n + cnt p.1) p.2 ks[k] with
    | none => rw [hb] at e2; exact e2
    | some q => rw [hb] at e2; obtain ⟨rfl, rfl, rfl⟩ := e2; exact ⟨rfl, rfl, rfl⟩
theorem mblock_node (k : Int) (t : ByteArray) (x : Nat) (ks : List Nd) (a : Int) (ih : ∀ i (h : i < ks.length), MNodeOk 28 stmtC ks[i]) : MNodeOk 20 blockC (.mk k t x ks a) := by
  intro R sl β w B b v n xs v2 V hM hx hok hV hsl hs
  obtain ⟨S, rfl, hlen, hkids⟩ := hV
  obtain ⟨ao, cap, hl, hcap, rfl⟩ : ∃ ao cap, ks.length ≤ cap ∧ cap ≤ 9223372036854775807 ∧ S = .slice ao ks.length cap := by
    rcases hlen with ⟨h0, q, cap, rfl, h2⟩ | ⟨kb, ko, cap, rfl, h1, h2⟩
    · unfold maxLen at h2; exact ⟨q, cap, by omega, by omega, by rw [h0]⟩
    · unfold maxLen at h2; exact ⟨_, cap, h1, h2, rfl⟩
  rw [Nd.wt] at hs hsl ⊢
  have hk0 := kp_alloc w (.cells #[.int .i64 k, .string t, .float .f64 x, .slice ao ks.length cap, .int .i64 a] 25)
  have hW := hM.kp hk0
  rw [blockC]
  by_cases h8 : k = 8
  · rw [if_pos h8]
    subst h8
    refine Calls.mono (mblock_walk (fun j wr => ∃ new sl1 β1 v1 v3, MSteps R sl1 β1 (Wb w 8 t x (.slice ao ks.length cap) a) B b v n xs v2 new v1 v3 wr ∧ cnt new ≤ 2 * wtL (ks.take j) ∧ sl1.length ≤ sl.length + wtL (ks.take j) ∧ RelS (stmtL n sl (ks.take j)) new sl sl1 β β1)
      b w t x ao ks.length cap hl hcap a (fun j hj => ?_) ?_ (fun j wr ⟨new, sl1, β1, v1, v3, hst, _⟩ => boxed_kept hM hst.kept) (fun j wr kb ko hao hj ⟨new, sl1, β1, v1, v3, hst, hcn, hsn, hrel⟩ => ?_)) fun e w' ⟨he, new, sl1, β1, v1, v3, hst, hcn, hsn, hrel⟩ => ⟨he, ?_⟩
    · rcases hlen with ⟨h0, _⟩ | ⟨kb, ko, cap', e, _⟩
      · omega
      · injection e with e; exact ⟨kb, ko, e⟩
    · exact ⟨[], sl, β, v, v2, MSteps.nil hW, by simp [cnt], by omega, by rw [List.take_zero, stmtL]; exact ⟨Nat.le_refl _, fun h => h, rfl, rfl, rfl⟩⟩
    · subst hao
      have hblk : ∀ i, R i → wr.heap[i]? = w.heap[i]? := fun i hi => (hW.rblock hst.kept i hi).trans (hk0.block i (Nat.lt_of_lt_of_le (hM.rB i hi) hM.bs) fun e => e)
      obtain ⟨c0, c1, c2, c3, c4, h0, h1, h2, h3, h4, hnd⟩ := kid_cells hM hblk hkids j hj
      have hwt := wtL_take ks j hj
      have hw1 := wtL_take1 ks j hj
      refine ⟨c0, c1, c2, c3, c4, h0, h1, h2, h3, h4, (ih j hj R sl1 β1 wr B b v1 _ _ v3 _ hst.st (hst.ones hx) (okL_at ks j hj hok.2) hnd (by omega) (by omega)).mono fun e w' ⟨he, new2, sl2, β2, v4, v5, h5, hc2, hs2, hr2⟩ => ⟨he, new ++ new2, sl2, β2, v4, v5, hst.trans h5, by rw [cnt_add hst.len]; omega, by omega, hrel.step hj hr2⟩⟩
    · rw [List.take_length] at hcn hsn hrel
      exact ⟨new, sl1, β1, v1, v3, hst.base hk0, by omega, by omega, hrel⟩
  · rw [if_neg h8]
    have h2 := MSteps.mark hW true
    refine mblock_no _ b w k (by simpa using h8) t x _ a β hW.bad hW.z2 ⟨[], sl, true, v, v2, h2.base hk0, by simp [cnt], by omega, Nat.le_refl _, fun _ => rfl, .inl rfl⟩
end
mutual
theorem mstmt_any : ∀ nd, MNodeOk 28 stmtC nd
  | .mk k t x ks a => mst_node k t x ks a (mblock_all ks)
theorem mblock_any : ∀ nd, MNodeOk 20 blockC nd
  | .mk k t x ks a => mblock_node k t x ks a (mstmt_all ks)
theorem mblock_all : ∀ (ks : List Nd) (i : Nat) (h : i < ks.length), MNodeOk 20 blockC ks[i]
  | [], _, h => absurd h (Nat.not_lt_zero _)
  | n :: _, 0, _ => mblock_any n
  | _ :: r, i + 1, h => mblock_all r i (Nat.lt_of_succ_lt_succ h)
theorem mstmt_all : ∀ (ks : List Nd) (i : Nat) (h : i < ks.length), MNodeOk 28 stmtC ks[i]
  | [], _, h => absurd h (Nat.not_lt_zero _)
  | n :: _, 0, _ => mstmt_any n
  | _ :: r, i + 1, h => mstmt_all r i (Nat.lt_of_succ_lt_succ h)
end
end Go.Proofs.Ytfkgfibmhhlemaa
namespace Go.Proofs.Ytfkgfibmhhlemaa
open Go.RowKit Go.Maps Go.WideMaps
abbrev W2 (w : World) (k : Int) (t : ByteArray) (x : Nat) (S : Value) (a : Int) : World := (Wb w k t x S a).alloc (.cells #[.slice none 0 0, .slice none 0 0, .bool false] 58)
set_option maxRecDepth 100000 in
set_option maxHeartbeats 1600000 in
theorem mcompile_walk (S1 S2 : World → Prop) (k : Int) (t : ByteArray) (x : Nat) (S : Value) (a : Int) (w : World) (Q : Ending → World → Prop)
    (hblk : Calls Try.prog 20 #[pt (w.heap.size + 1) 0, .agg #[.int .i64 k, .string t, .float .f64 x, S, .int .i64 a]] (W2 w k t x S a) fun e w' => e = .returned (.tuple #[]) ∧ S1 w')
    (hput : ∀ w1, S1 w1 → Calls Try.prog 21 #[pt (w.heap.size + 1) 0, .agg #[.int .i64 0, .int .i64 0, .float .f64 0, .string ⟨#[]⟩]] w1 fun e w' => (∃ i, e = .returned (.int .i64 i)) ∧ S2 w')
    (hS2 : ∀ w2, S2 w2 → ∃ β a1 m1 c1 a0 m0 c0 d, decide ((64 : Int) < ((m1 : Nat) : Int)) = d ∧ w2.cell? ⟨w.heap.size + 1, 2, none⟩ = some (.bool β) ∧ w2.cell? ⟨w.heap.size + 1, 1, none⟩ = some (.slice a1 m1 c1) ∧ w2.cell? ⟨w.heap.size + 1, 0, none⟩ = some (.slice a0 m0 c0) ∧
      Q (.returned (bif β || d then .tuple #[.slice none 0 0, .int .i64 2100] else .tuple #[.slice a0 m0 c0, .int .i64 0])) w2) :
    Calls Try.prog 10 #[.agg #[.int .i64 k, .string t, .float .f64 x, S, .int .i64 a]] w Q := by
  go_enter Try.func10, Try.ntmps10
  go_wp2_with (first | (go_at_call 20; refine Calls.mono hblk ?_; rintro e w1 ⟨rfl, h1⟩) | (go_at_call 21; refine Calls.mono (hput _ h1) ?_; rintro e w2 ⟨⟨i, rfl⟩, h2⟩; obtain ⟨β, a1, m1, c1, a0, m0, c0, d, hd, q2, q1, q0, hQ⟩ := hS2 _ h2; clear hput hS2; cases β <;> cases d))
  all_goals first
    | exact hQ
    | (go_ret2; exact hQ)
mutual
theorem stmtC_slots : ∀ (nd : Nd) (n : Nat) (sl : List (List UInt8)) (o : Out), sl.length ≤ 64 → stmtC n sl nd = some o → o.2.length ≤ 64
  | .mk k t x ks a, n, sl, o, hl, h => by
    rw [stmtC.eq_def] at h
    simp only at h
    split at h
    · split at h
      · rename_i a1
        cases he : exprC sl a1 with
        | none => rw [he] at h; cases h
        | some e =>
          rw [he] at h
          unfold setC at h
          cases hs : slotOf sl t.toList with
          | some i => rw [hs] at h; cases h; exact hl
          | none =>
            rw [hs] at h
            simp only [Option.bind_some] at h
            split at h
            · cases h; simp; omega
            · cases h
      · cases h
    split at h
    · split at h
      · rename_i a1 b1 c1
        have hb := blockC_slots b1
        have hc := blockC_slots c1
        cases he : exprC sl a1 with
        | none => rw [he] at h; cases h
        | some e =>
          rw [he] at h
          simp only [Option.bind_some] at h
          cases hp : blockC (n + cnt e + 1) sl b1 with
          | none => rw [hp] at h; cases h
          | some p =>
            rw [hp] at h
            simp only [Option.bind_some] at h
            have h1 := hb _ _ p hl hp
            split at h
            · split at h
              · cases h; exact h1
              · cases h
            · cases hq : blockC (n + cnt e + 1 + cnt p.1 + 1) p.2 c1 with
              | none => rw [hq] at h; cases h
              | some q => rw [hq] at h; cases h; exact hc _ _ q h1 hq
      · cases h
    split at h
    · split at h
      · rename_i a1 b1
        have hb := blockC_slots b1
        cases he : exprC sl a1 with
        | none => rw [he] at h; cases h
        | some e =>
          rw [he] at h
          simp only [Option.bind_some] at h
          cases hp : blockC (n + cnt e + 1) sl b1 with
          | none => rw [hp] at h; cases h
          | some p => rw [hp] at h; cases h; exact hb _ _ p hl hp
      · cases h
    split at h
    · split at h
      · rename_i a1
        cases he : exprC sl a1 with
        | none => rw [he] at h; cases h
        | some e => rw [he] at h; cases h; exact hl
      · cases h
    split at h
    · split at h
      · rename_i a1
        cases he : exprC sl a1 with
        | none => rw [he] at h; cases h
        | some e => rw [he] at h; cases h; exact hl
      · cases h
    · cases h
theorem blockC_slots : ∀ (nd : Nd) (n : Nat) (sl : List (List UInt8)) (o : Out), sl.length ≤ 64 → blockC n sl nd = some o → o.2.length ≤ 64
  | .mk k t x ks a, n, sl, o, hl, h => by
    rw [blockC] at h
    have ih := stmtL_slots ks
    split at h
    · exact ih n sl o hl h
    · cases h
theorem stmtL_slots : ∀ (ks : List Nd) (n : Nat) (sl : List (List UInt8)) (o : Out), sl.length ≤ 64 → stmtL n sl ks = some o → o.2.length ≤ 64
  | [], n, sl, o, hl, h => by rw [stmtL] at h; cases h; exact hl
  | a :: r, n, sl, o, hl, h => by
    rw [stmtL] at h
    have h1 := stmtC_slots a
    have h2 := stmtL_slots r
    cases hp : stmtC n sl a with
    | none => rw [hp] at h; cases h
    | some p =>
      rw [hp] at h
      simp only [Option.bind_some] at h
      cases hq : stmtL (n + cnt p.1) p.2 r with
      | none => rw [hq] at h; cases h
      | some q => rw [hq] at h; cases h; exact h2 _ _ q (h1 _ _ p hl hp) hq
end
theorem compile_any (nd : Nd) (R : Nat → Prop) (V : Value) (w : World) (hR : ∀ k, R k → k < w.heap.size) (hok : nd.ok) (hn : NodeAt R w nd V) (hs : 2 * nd.wt + 2 ≤ 3518437208883) : Calls Try.prog 10 #[V] w (ScriptPost w (scriptC nd)) := by
  obtain ⟨k, t, x, ks, a, e⟩ := nd.eta
  have hn0 := hn
  rw [e] at hn
  obtain ⟨S, rfl, hlen, hkids⟩ := hn
  have hkp := (kp_alloc w (.cells #[.int .i64 k, .string t, .float .f64 x, S, .int .i64 a] 25)).trans0 (kp_alloc (Wb w k t x S a) (.cells #[.slice none 0 0, .slice none 0 0, .bool false] 58))
  have hb : (W2 w k t x S a).heap[w.heap.size + 1]? = some (.cells #[.slice none 0 0, .slice none 0 0, .bool false] 58) := by
    have := heap_alloc_new (Wb w k t x S a) (.cells #[.slice none 0 0, .slice none 0 0, .bool false] 58)
    rwa [wb_size] at this
  have hM : Mk R [] false (W2 w k t x S a) w.heap.size (w.heap.size + 1) (.slice none 0 0) 0 [] (.slice none 0 0) :=
    ⟨⟨cell_of hb 0 _ rfl, frozen_of hb 0, World.ownsRow_nil _ _ _ _, by simp [Value.ownBlock]⟩, hR, by omega, cell_of hb 1 _ rfl, World.ownsRow_nil _ _ _ _, by simp [Value.ownBlock], by simp [Value.ownBlock], cell_of hb 2 _ rfl, frozen_of hb 1, frozen_of hb 2⟩
  have hB := mblock_any nd R [] false (W2 w k t x S a) w.heap.size (w.heap.size + 1) (.slice none 0 0) 0 [] (.slice none 0 0) _ hM (by simp) hok (hn0.kept fun j hj => hkp.block j (hR j hj) fun e => e) (by simp; omega) (by omega)
  have hsz : (W2 w k t x S a).heap.size = w.heap.size + 2 := by simp
  refine mcompile_walk _ (fun w2 => ∃ new sl' β' v' v2', MSteps R sl' β' (W2 w k t x S a) w.heap.size (w.heap.size + 1) (.slice none 0 0) 0 [] (.slice none 0 0) (new ++ ins 0 0 f0 noText) v' v2' w2 ∧ RelS (blockC 0 [] nd) new [] sl' false β') k t x S a w _ hB (fun w1 ⟨new, sl', β', v', v2', hst, hcn, hsn, hrel⟩ => ?_) fun w2 ⟨new, sl', β', v', v2', hst, hrel⟩ => ?_
  · exact (mput_one hst.st (by omega) 0 0 0 noText).mono fun e w' ⟨he, v3, h3⟩ => ⟨⟨_, he⟩, new, sl', β', v3, v2', hst.trans h3, hrel⟩
  · obtain ⟨a0, c0, h0⟩ := hst.st.em.slice
    obtain ⟨a1, c1, h1⟩ := own_slice2 hst.st.nown
    subst h0 h1
    have hk : Kp (fun _ => False) w w2 := ⟨hst.kept.os.trans hkp.os, hst.kept.tape.trans hkp.tape, hst.kept.output.trans hkp.output, Nat.le_trans hkp.size hst.kept.size, fun j hj _ => (hst.kept.block j (by omega) (by simp [MMay, Value.ownBlock]; omega)).trans (hkp.block j hj fun e => e)⟩
    refine ⟨β', a1, sl'.length, c1, a0, _, c0, _, rfl, hst.st.bad, hst.st.names, hst.st.em.cell, ?_⟩
    obtain ⟨_, _, h3⟩ := hrel
    unfold scriptC
    cases hbc : blockC 0 [] nd with
    | none =>
      rw [hbc] at h3
      have : (β' || decide ((64 : Int) < (sl'.length : Int))) = true := by
        rcases h3 with h3 | h3
        · simp [h3]
        · simp; right; omega
      rw [this]
      exact ⟨rfl, hk⟩
    | some p =>
      rw [hbc] at h3
      obtain ⟨rfl, rfl, rfl⟩ := h3
      have hl : p.2.length ≤ 64 := blockC_slots nd 0 [] p (by simp) hbc
      have : (false || decide ((64 : Int) < (p.2.length : Int))) = false := by simp; omega
      rw [this]
      refine ⟨_, rfl, ?_, hk⟩
      have := hst.st.em.own
      simpa using this
end Go.Proofs.Ytfkgfibmhhlemaa

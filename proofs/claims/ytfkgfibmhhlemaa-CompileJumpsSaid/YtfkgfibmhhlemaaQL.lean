/- CompileTrees: a part of the proof (L0 L1 L2). No conditions. -/
import Derived.Test.YtfkgfibmhhlemaaQJ
import Derived.Test.YtfkgfibmhhlemaaRows
import Derived.ChangeArms
import Derived.ProofKit
import Derived.OpenShut
namespace Go.Proofs.Ytfkgfibmhhlemaa
open Go.RowKit Go.Maps Go.WideMaps
set_option maxRecDepth 100000 in
set_option maxHeartbeats 4000000 in
theorem trees_none (k : Int) (t : ByteArray) (x : Nat) (S : Value) (a : Int) (w : World)
    (c6 : ∀ w1, Kp0 w w1 → Calls Try.prog 6 #[agg5 k t x S a] w1 fun e w' => e = .returned (.bool true) ∧ Kp0 w1 w')
    (c8 : ∀ w1, Kp0 w w1 → Calls Try.prog 8 #[agg5 k t x S a] w1 fun e w' => ∃ g o n c, e = .returned (agg5 k t x (.slice (some ⟨g, o, none⟩) n c) a) ∧ Kp0 w1 w' ∧ (∀ wr, Kp0 w' wr → Calls Try.prog 9 #[agg5 k t x (.slice (some ⟨g, o, none⟩) n c) a] wr (ScriptPost wr none)) ∧
      ∀ wr, Kp0 w' wr → Calls Try.prog 13 #[agg5 k t x (.slice (some ⟨g, o, none⟩) n c) a, agg5 k t x S a] wr fun e w2 => e = .returned (.bool true) ∧ Kp0 wr w2)
    (c10 : ∀ w1, Kp0 w w1 → Calls Try.prog 10 #[agg5 k t x S a] w1 (ScriptPost w1 none))
    (c7 : ∀ w1, Kp0 w w1 → Calls Try.prog 7 #[] w1 fun e w' => e = .returned (.bool true) ∧ Gr w1 w') :
    Calls Try.prog 3 #[agg5 k t x S a] w fun e w' => e = .returned (.bool true) ∧ Gr w w' := by
  have hk0 : Kp0 w _ := kp_alloc w (.cells #[.int .i64 k, .string t, .float .f64 x, S, .int .i64 a] 25)
  have hb0 : (w.alloc (.cells #[.int .i64 k, .string t, .float .f64 x, S, .int .i64 a] 25)).heap[w.heap.size]? = _ := heap_alloc_new w _
  have c6a := c6 _ hk0
  have hsf : ∀ (w : World) (a : Addr), (store a (.float .f64 x)).run Try.prog w = stored Try.prog w a (.float .f64 x) .plain := fun w a => run_store _ w a _ _ rfl
  clear c6
  go_enter Try.func3, Try.ntmps3
  go_wp2_with (first
    | (go_at_call 6; refine Calls.mono c6a ?_; rintro e w1 ⟨rfl, hk1⟩; have hw1 := hk0.trans0 hk1; have hb1 := box_kp hb0 hk1; obtain ⟨y0, y1, y2, y3, y4⟩ := box5_of hb1; have c8a := c8 _ hw1; clear c6a c8)
    | (go_at_call 8; refine Calls.mono c8a ?_; rintro e w2 ⟨g, o, n, c, rfl, hk2, c9, c13⟩; have hka : Kp0 w2 _ := kp_alloc w2 (.cells #[.int .i64 k, .string t, .float .f64 x, .slice (some ⟨g, o, none⟩) n c, .int .i64 a] 25); have hbY : (w2.alloc (.cells #[.int .i64 k, .string t, .float .f64 x, .slice (some ⟨g, o, none⟩) n c, .int .i64 a] 25)).heap[w2.heap.size]? = _ := heap_alloc_new w2 _; have hb2 := box_kp hb1 (hk2.trans0 hka); have hw2 := hw1.trans0 hk2; have c9a := c9 _ hka; clear c8a)
    | (go_at_call 9; refine Calls.mono c9a ?_; rintro e w3 ⟨rfl, hk3⟩; have hbY3 := box_kp hbY hk3; have hb3 := box_kp hb2 hk3; obtain ⟨u0, u1, u2, u3, u4⟩ := box5_of hbY3; have c9b := c9 _ (hka.trans0 hk3); have hw3 := hw2.trans0 (hka.trans0 hk3); clear c9a)
    | (go_at_call 9; refine Calls.mono c9b ?_; rintro e w4 ⟨rfl, hk4⟩; have hbY4 := box_kp hbY3 hk4; have hb4 := box_kp hb3 hk4; obtain ⟨v0, v1, v2, v3, v4⟩ := box5_of hb4; have hw4 := hw3.trans0 hk4; have c10a := c10 _ hw4; clear c9b c10)
    | (go_at_call 10; refine Calls.mono c10a ?_; rintro e w5 ⟨rfl, hk5⟩; have hbY5 := box_kp hbY4 hk5; have hb5 := box_kp hb4 hk5; have hw5 := hw4.trans0 hk5; obtain ⟨x0, x1, x2, x3, x4⟩ := box5_of hb5; obtain ⟨p0, p1, p2, p3, p4⟩ := box5_of hbY5; have c13a := c13 w5 (hka.trans0 (hk3.trans0 (hk4.trans0 hk5))); have s11a := sameins_nil w5; clear c10a)
    | (go_at_call 11; refine Calls.mono s11a ?_; rintro e w' ⟨rfl, rfl⟩; clear s11a)
    | (go_at_call 12; refine Calls.mono (num_any _ _) ?_; rintro e w' ⟨rfl, rfl⟩)
    | (go_at_call 13; refine Calls.mono c13a ?_; rintro e w7 ⟨rfl, hk7⟩; have hw7 := hw5.trans0 hk7; have s14 := spoil_nil w7; have s11b := sameins_nil w7; have c7a := c7 w7 hw7; clear c13a)
    | (go_at_call 14; refine Calls.mono s14 ?_; rintro e w8 ⟨rfl, rfl⟩; clear s14)
    | (go_at_call 11; refine Calls.mono s11b ?_; rintro e w9 ⟨rfl, rfl⟩; clear s11b)
    | (go_at_call 7; refine Calls.mono c7a ?_; rintro e w10 ⟨rfl, hk10⟩; clear c7a))
  go_ret
  exact ⟨rfl, hk10.ahead hw7⟩
set_option maxRecDepth 100000 in
set_option maxHeartbeats 4000000 in
theorem trees_no (k : Int) (t : ByteArray) (x : Nat) (S : Value) (a : Int) (w : World)
    (c6 : ∀ w1, Kp0 w w1 → Calls Try.prog 6 #[agg5 k t x S a] w1 fun e w' => e = .returned (.bool false) ∧ Kp0 w1 w')
    (c7 : ∀ w1, Kp0 w w1 → Calls Try.prog 7 #[] w1 fun e w' => e = .returned (.bool true) ∧ Gr w1 w') :
    Calls Try.prog 3 #[agg5 k t x S a] w fun e w' => e = .returned (.bool true) ∧ Gr w w' := by
  have hk0 : Kp0 w _ := kp_alloc w (.cells #[.int .i64 k, .string t, .float .f64 x, S, .int .i64 a] 25)
  have c6a := c6 _ hk0
  have hsf : ∀ (w : World) (a : Addr), (store a (.float .f64 x)).run Try.prog w = stored Try.prog w a (.float .f64 x) .plain := fun w a => run_store _ w a _ _ rfl
  clear c6
  go_enter Try.func3, Try.ntmps3
  go_wp2_with (first
    | (go_at_call 6; refine Calls.mono c6a ?_; rintro e w1 ⟨rfl, hk1⟩; have hw1 := hk0.trans0 hk1; have c7a := c7 w1 hw1; clear c6a)
    | (go_at_call 7; refine Calls.mono c7a ?_; rintro e w10 ⟨rfl, hk10⟩; clear c7a))
  go_ret
  exact ⟨rfl, hk10.ahead hw1⟩
end Go.Proofs.Ytfkgfibmhhlemaa
namespace Go.Proofs.Ytfkgfibmhhlemaa
open Go.RowKit Go.Maps Go.WideMaps
theorem scriptC_cnt {nd : Nd} {code : List Value} (h : scriptC nd = some code) : cnt code ≤ 2 * nd.wt + 1 := by
  unfold scriptC at h
  cases hb : blockC 0 [] nd with
  | none => rw [hb] at h; cases h
  | some o =>
    rw [hb] at h
    have hg := blockC_good nd 0 [] o hb
    obtain ⟨new, sl⟩ := o
    have e : new ++ ins 0 0 f0 noText = code := by simpa using h
    have := (hg.append (good_ins 0 0 0 noText)).cnt
    rw [← e]; exact this
/-- the law's function at any tree that reads so -/
theorem law_any (nd : Nd) (R : Nat → Prop) (V : Value) (w : World) (hR : ∀ k, R k → k < w.heap.size) (hok : nd.ok) (hn : NodeAt R w nd V) (hs : 2 * nd.wt + 2 ≤ 2199023255552)
    (c7 : ∀ w1, Kp0 w w1 → Calls Try.prog 7 #[] w1 fun e w' => e = .returned (.bool true) ∧ Gr w1 w') :
    Calls Try.prog 3 #[V] w fun e w' => e = .returned (.bool true) ∧ Gr w w' := by
  obtain ⟨k, t, x, ks, a, e⟩ := nd.eta
  have hV : ∃ S, V = agg5 k t x S a := by
    rw [e] at hn
    obtain ⟨S, h, _⟩ := hn
    exact ⟨S, h⟩
  obtain ⟨S, rfl⟩ := hV
  have hR1 : ∀ {w1}, Kp0 w w1 → ∀ k, R k → k < w1.heap.size := fun h k hk => Nat.lt_of_lt_of_le (hR k hk) h.size
  have hn1 : ∀ {w1}, Kp0 w w1 → NodeAt R w1 nd (agg5 k t x S a) := fun h => hn.kept fun j hj => h.block j (hR j hj) fun e => e
  have c6 : ∀ w1, Kp0 w w1 → Calls Try.prog 6 #[agg5 k t x S a] w1 fun e w' => e = .returned (.bool (shB 200 nd)) ∧ Kp0 w1 w' := fun w1 h => shallowtree_any R nd _ w1 (hR1 h) (hn1 h)
  have c8 : ∀ w1, Kp0 w w1 → Calls Try.prog 8 #[agg5 k t x S a] w1 fun e w' => ∃ g o n c, e = .returned (agg5 k t x (.slice (some ⟨g, o, none⟩) n c) a) ∧ Kp0 w1 w' ∧ (∀ wr, Kp0 w' wr → Calls Try.prog 9 #[agg5 k t x (.slice (some ⟨g, o, none⟩) n c) a] wr (ScriptPost wr (scriptC nd))) ∧
      ∀ wr, Kp0 w' wr → Calls Try.prog 13 #[agg5 k t x (.slice (some ⟨g, o, none⟩) n c) a, agg5 k t x S a] wr fun e w2 => e = .returned (.bool true) ∧ Kp0 wr w2 := fun w1 h => by
    refine Calls.mono (lend_any nd R w1 _ (hR1 h) (hn1 h) (by omega)) ?_
    rintro e' w' ⟨d0, d1, d2, d3, d4, rfl, _, hl, hk⟩
    have hl0 := hl
    rw [e] at hl
    obtain ⟨g, o, cap, he, _⟩ := hl
    rw [he] at hl0
    have hR2 : ∀ {wr}, Kp0 w' wr → ∀ b, (w1.heap.size ≤ b ∧ b < w'.heap.size) → b < wr.heap.size := fun h b hb => Nat.lt_of_lt_of_le hb.2 h.size
    have hlk : ∀ {wr}, Kp0 w' wr → LentAt (fun b => w1.heap.size ≤ b ∧ b < w'.heap.size) wr nd (agg5 k t x (.slice (some ⟨g, o, none⟩) ks.length cap) a) := fun h => hl0.kept fun j hj => h.block j hj.2 fun e => e
    exact ⟨g, o, ks.length, cap, congrArg Ending.returned he, hk, fun wr hr => script_any nd _ _ wr (hR2 hr) (hlk hr).node (by omega), fun wr hr => kept_any nd _ R wr _ _ (hR2 hr) (hR1 (h.trans0 (hk.trans0 hr))) (hlk hr) (hn1 (h.trans0 (hk.trans0 hr)))⟩
  have c10 : ∀ w1, Kp0 w w1 → Calls Try.prog 10 #[agg5 k t x S a] w1 (ScriptPost w1 (scriptC nd)) := fun w1 h => compile_any nd R _ w1 (hR1 h) hok (hn1 h) (by omega)
  cases hB : shB 200 nd with
  | false => rw [hB] at c6; exact trees_no k t x S a w c6 c7
  | true =>
    rw [hB] at c6
    cases hc : scriptC nd with
    | none => rw [hc] at c8 c10; exact trees_none k t x S a w c6 c8 c10 c7
    | some code =>
      rw [hc] at c8 c10
      obtain ⟨hi, h1⟩ := scriptC_insn hc
      have hm := scriptC_cnt hc
      exact trees_some code hi h1 (by omega) k t x S a w c6 c8 c10 c7
end Go.Proofs.Ytfkgfibmhhlemaa
namespace Go.Proofs.Ytfkgfibmhhlemaa
open Go.ChangeShapes Go.WideShapes Go.ChangeAt Go.RowKit
section
variable {H : Type} {enc : TypeId × Value → H} {w : World} {sp : Nat → Bool} {hd : Bool}
theorem trod_f64 {P : Program} {base fuel : Nat} {t : TypeId} {cs : List Value} {x : DataW H × List MemPlace} (ht : P.underlying t = some (.float .f64)) (h : DataW.trod enc P w base sp hd fuel t cs = some x) : ∃ n, cs = [.float .f64 n] ∧ x = (.lit (.float .f64 n), []) := by
  cases fuel with
  | zero => simp [DataW.trod] at h
  | succ n =>
    unfold DataW.trod at h
    rw [ht] at h
    split at h <;> simp_all
theorem size25 : Try.prog.cellsOf 25 = 5 := by kernel_rfl
theorem size3 : Try.prog.cellsOf 3 = 1 := by kernel_rfl
theorem size9 : Try.prog.cellsOf 9 = 1 := by kernel_rfl
theorem size22 : Try.prog.cellsOf 22 = 1 := by kernel_rfl
theorem size23 : Try.prog.cellsOf 23 = 1 := by kernel_rfl
/-- the kids, one by one -/
theorem open_kids {R : Nat → Prop} {S : Value} : ∀ (els : List (DataW H × List MemPlace)) (j : Nat), (∀ i (h : i < els.length), ∃ c0 c1 c2 c3 c4 nd, ElemAt R w S (j + i) c0 c1 c2 c3 c4 ∧ NodeAt R w nd (.agg #[c0, c1, c2, c3, c4]) ∧ nd.ok ∧ nd.wt ≤ Rows.uptoBulk els[i].1) →
    ∃ ks : List Nd, ks.length = els.length ∧ KidsAt R w ks S j ∧ okL ks ∧ wtL ks ≤ Rows.uptoBulkAll (els.map (·.1))
  | [], j, _ => ⟨[], rfl, trivial, trivial, by simp [wtL]⟩
  | x :: r, j, h => by
    obtain ⟨c0, c1, c2, c3, c4, nd, he, hn, ho, hw⟩ := h 0 (by simp)
    obtain ⟨ks, hl, hk, hok, hwt⟩ := open_kids r (j + 1) fun i hi => by
      have := h (i + 1) (by simpa using hi)
      rw [show j + (i + 1) = j + 1 + i by omega] at this
      exact this
    refine ⟨nd :: ks, by simp [hl], ⟨⟨c0, c1, c2, c3, c4, he, hn⟩, hk⟩, ⟨ho, hok⟩, ?_⟩
    simp only [wtL, List.map_cons, Rows.uptoBulkAll]
    have hw : nd.wt ≤ Rows.uptoBulk x.1 := hw
    omega
set_option maxRecDepth 100000 in
/-- a node's reading is a tree that lies so -/
theorem open_node : ∀ (n : Nat) (cs : List Value) (x : DataW H × List MemPlace), DataW.trod enc Try.prog w 0 sp hd n 25 cs = some x →
    ∃ c0 c1 c2 c3 c4 nd, cs = [c0, c1, c2, c3, c4] ∧ NodeAt (fun k => k < w.heap.size) w nd (.agg #[c0, c1, c2, c3, c4]) ∧ nd.ok ∧ nd.wt ≤ Rows.uptoBulk x.1 := by
  intro n
  induction n using Nat.strongRecOn with
  | _ n ih =>
  intro cs x h
  obtain ⟨xs, m, rfl, rfl, hcl, hxl, hf⟩ := DataW.trod_struct Try.underlying25 h
  rw [size25] at hcl
  match cs, hcl with
  | [c0, c1, c2, c3, c4], _ =>
  match xs, hxl with
  | [x0, x1, x2, x3, x4], _ =>
  have f0 : DataW.trod enc Try.prog w 0 sp hd m 3 (([c0, c1, c2, c3, c4].drop 0).take (Try.prog.cellsOf 3)) = some x0 := hf 0 _ rfl
  rw [size3] at f0
  have f0 : DataW.trod enc Try.prog w 0 sp hd m 3 [c0] = some x0 := f0
  have f1 : DataW.trod enc Try.prog w 0 sp hd m 9 (([c0, c1, c2, c3, c4].drop 1).take (Try.prog.cellsOf 9)) = some x1 := hf 1 _ rfl
  rw [size9] at f1
  have f1 : DataW.trod enc Try.prog w 0 sp hd m 9 [c1] = some x1 := f1
  have f2 : DataW.trod enc Try.prog w 0 sp hd m 22 (([c0, c1, c2, c3, c4].drop 2).take (Try.prog.cellsOf 22)) = some x2 := hf 2 _ rfl
  rw [size22] at f2
  have f2 : DataW.trod enc Try.prog w 0 sp hd m 22 [c2] = some x2 := f2
  have f3 : DataW.trod enc Try.prog w 0 sp hd m 23 (([c0, c1, c2, c3, c4].drop 3).take (Try.prog.cellsOf 23)) = some x3 := hf 3 _ rfl
  rw [size23] at f3
  have f3 : DataW.trod enc Try.prog w 0 sp hd m 23 [c3] = some x3 := f3
  have f4 : DataW.trod enc Try.prog w 0 sp hd m 3 (([c0, c1, c2, c3, c4].drop 4).take (Try.prog.cellsOf 3)) = some x4 := hf 4 _ rfl
  rw [size3] at f4
  have f4 : DataW.trod enc Try.prog w 0 sp hd m 3 [c4] = some x4 := f4
  obtain ⟨k, e0, rfl, wk⟩ := DataW.trod_int Try.underlying3 f0
  obtain ⟨t, e1, rfl, _⟩ := DataW.trod_string Try.underlying9 f1
  obtain ⟨z, e2, rfl⟩ := trod_f64 Try.underlying22 f2
  obtain ⟨a, e4, rfl, _⟩ := DataW.trod_int Try.underlying3 f4
  simp only [List.cons.injEq, and_true] at e0 e1 e2 e4
  subst e0 e1 e2 e4
  rcases DataW.trod_slice Try.underlying23 f3 with ⟨e3, rfl⟩ | ⟨ad, len, cap, els, rest, m', rfl, e3, rfl, _, hl, hc, hel, hat, _, _⟩
  · obtain rfl := (List.cons.inj e3).1
    refine ⟨_, _, _, _, _, .mk k t z [] a, rfl, ⟨_, rfl, .inl ⟨rfl, none, 0, rfl, Nat.zero_le _⟩, trivial⟩, ⟨wk, trivial⟩, ?_⟩
    simp only [Nd.wt, wtL, List.map_cons, List.map_nil, Rows.uptoBulk, Rows.uptoBulkAll]
    have : t.data.toList.length = t.size := by simp
    omega
  · obtain rfl := (List.cons.inj e3).1
    rw [size25] at hat
    have hspot : 0 < len → ∃ b o, ad = ⟨b, o, none⟩ ∧ b < w.heap.size := fun h0 => by
      have h1 := hat 0 h0
      rw [Nat.zero_mul, List.getElem?_eq_getElem (by omega), Option.bind_eq_some_iff] at h1
      obtain ⟨ds, hd1, _⟩ := h1
      have hblk := World.cells?_block hd1 (by decide)
      obtain ⟨_, _, hcell⟩ := World.cells?_some hd1
      have := hcell 0 (by decide)
      have hlen := (World.cells?_some hd1).2.1
      rw [List.getElem?_eq_getElem (by omega)] at this
      have hs := World.cell?_spot this
      obtain ⟨b, o, s⟩ := ad
      have hs : s = none := by simpa [Addr.add] using hs
      subst hs
      exact ⟨b, o, rfl, by simpa [Addr.add] using hblk⟩
    obtain ⟨ks, hkl, hk, hok, hwt⟩ := open_kids (R := fun k => k < w.heap.size) (w := w) (S := .slice (some ad) len cap) els 0 fun i hi => by
      have hi' : i < len := by omega
      obtain ⟨b, o, rfl, hb⟩ := hspot (by omega)
      have h1 := hat i hi'
      rw [List.getElem?_eq_getElem hi, Option.bind_eq_some_iff] at h1
      obtain ⟨ds, hd1, ht⟩ := h1
      obtain ⟨d0, d1, d2, d3, d4, nd, rfl, hn, ho, hw⟩ := ih m' (by omega) _ _ ht
      have hcell := (World.cells?_some hd1).2.2
      have ha : ∀ j, j < 5 → ((⟨b, o, none⟩ : Addr).add (i * 5)).add j = ⟨b, o + (0 + i) * 5 + j, none⟩ := fun j _ => by
        unfold Addr.add
        split <;> split <;> simp_all <;> omega
      refine ⟨d0, d1, d2, d3, d4, nd, ⟨b, o, len, cap, rfl, hb, ?_, ?_, ?_, ?_, ?_⟩, hn, ho, hw⟩
      · have := hcell 0 (by decide); rw [ha 0 (by decide)] at this; exact this
      · have := hcell 1 (by decide); rw [ha 1 (by decide)] at this; exact this
      · have := hcell 2 (by decide); rw [ha 2 (by decide)] at this; exact this
      · have := hcell 3 (by decide); rw [ha 3 (by decide)] at this; exact this
      · have := hcell 4 (by decide); rw [ha 4 (by decide)] at this; exact this
    refine ⟨_, _, _, _, _, .mk k t z ks a, rfl, ⟨_, rfl, ?_, hk⟩, ⟨wk, hok⟩, ?_⟩
    · by_cases h0 : 0 < len
      · obtain ⟨b, o, rfl, _⟩ := hspot h0
        exact .inr ⟨b, o, cap, by rw [hkl, hel], by omega, hc⟩
      · exact .inl ⟨by omega, some ad, cap, by rw [show len = 0 by omega], hc⟩
    · simp only [Nd.wt, List.map_cons, List.map_nil, Rows.uptoBulk, Rows.uptoBulkAll]
      have : t.data.toList.length = t.size := by simp
      omega
end
end Go.Proofs.Ytfkgfibmhhlemaa

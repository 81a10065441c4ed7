/- CompileJumps: every jump of a script lies within its code: the plain law, the walk, the row (R0 R1 R2). No conditions. -/
import Derived.Test.YtfkgfibmhhlemaaQP
import Derived.Test.YtfkgfibmhhlemaaQS
import Derived.HandedShaped
import Derived.JoinedOf
namespace Go.Proofs.Ytfkgfibmhhlemaa
open Go.RowKit Go.Maps Go.WideMaps
/-- instructions none of which ends the code and whose jumps lead no farther than hi -/
inductive JOk (hi : Nat) : List Value → Prop where
  | nil : JOk hi []
  | cons (op arg : Int) (num : Value) (tx : ByteArray) {l : List Value} (h0 : op ≠ 0) (hj : op = 15 ∨ op = 16 → 0 ≤ arg ∧ arg ≤ hi) (h : JOk hi l) : JOk hi (ins op arg num tx ++ l)
theorem JOk.append {hi : Nat} {a b : List Value} (ha : JOk hi a) (hb : JOk hi b) : JOk hi (a ++ b) := by
  induction ha with
  | nil => exact hb
  | cons op arg num tx h0 hj _ ih => rw [List.append_assoc]; exact .cons op arg num tx h0 hj ih
theorem JOk.mono {hi hi' : Nat} {a : List Value} (ha : JOk hi a) (h : hi ≤ hi') : JOk hi' a := by
  induction ha with
  | nil => exact .nil
  | cons op arg num tx h0 hj _ ih => exact .cons op arg num tx h0 (fun e => ⟨(hj e).1, by have := (hj e).2; omega⟩) ih
theorem j_ins {hi : Nat} (op arg : Int) (num : Value) (tx : ByteArray) (h0 : op ≠ 0) (hj : op = 15 ∨ op = 16 → 0 ≤ arg ∧ arg ≤ hi) : JOk hi (ins op arg num tx) := by
  have := JOk.cons op arg num tx h0 hj .nil
  rwa [List.append_nil] at this
theorem j_plain {hi : Nat} (op arg : Int) (num : Value) (tx : ByteArray) (h0 : op ≠ 0) (h1 : op ≠ 15) (h2 : op ≠ 16) : JOk hi (ins op arg num tx) := j_ins op arg num tx h0 fun e => by rcases e with e | e <;> contradiction
theorem JOk.at {hi : Nat} {l : List Value} (h : JOk hi l) : ∀ j, j * 4 < l.length → ∃ op arg, l[j * 4]? = some (.int .i64 op) ∧ l[j * 4 + 1]? = some (.int .i64 arg) ∧ op ≠ 0 ∧ (op = 15 ∨ op = 16 → 0 ≤ arg ∧ arg ≤ hi) := by
  induction h with
  | nil => intro j hj; simp at hj
  | cons op arg num tx h0 hjj _ ih =>
    intro j hj
    match j, hj with
    | 0, _ => exact ⟨op, arg, rfl, rfl, h0, hjj⟩
    | j + 1, hj =>
      obtain ⟨op', arg', e0, e1, h1, h2⟩ := ih j (by simp at hj; omega)
      refine ⟨op', arg', ?_, ?_, h1, h2⟩
      · rw [show (j + 1) * 4 = j * 4 + 4 by omega]; simpa using e0
      · rw [show (j + 1) * 4 + 1 = j * 4 + 1 + 4 by omega]; simpa using e1
theorem sign_op {t : ByteArray} {o : Int} (h : signO t = some o) : o ≠ 0 ∧ o ≠ 15 ∧ o ≠ 16 := by
  unfold signO at h
  simp only [cond_eq_ite] at h
  repeat' split at h
  all_goals first
    | (cases h; decide)
    | cases h
mutual
theorem exprC_j (hi : Nat) (sl : List (List UInt8)) : ∀ (nd : Nd) (new : List Value), exprC sl nd = some new → JOk hi new
  | .mk k t x ks a, new, h => by
    rw [exprC] at h
    have ihL := exprL_j hi sl ks
    split at h
    · split at h
      · cases h; exact (j_plain _ _ _ _ (by decide) (by decide) (by decide))
      · cases h
    split at h
    · split at h
      · cases h; exact (j_plain _ _ _ _ (by decide) (by decide) (by decide))
      · cases h
    split at h
    · split at h
      · cases hs : slotOf sl t.toList <;> rw [hs] at h <;> simp at h
        rw [← h]; exact (j_plain _ _ _ _ (by decide) (by decide) (by decide))
      · cases h
    split at h
    · split at h
      · split at h
        · cases hL : exprL sl ks with
          | none => rw [hL] at h; cases h
          | some c =>
            rw [hL] at h; cases h
            refine (ihL c hL).append ?_
            split
            · exact j_plain _ _ _ _ (by decide) (by decide) (by decide)
            · exact j_plain _ _ _ _ (by decide) (by decide) (by decide)
        · cases h
      · cases h
    split at h
    · split at h
      · rename_i o ho
        split at h
        · cases hL : exprL sl ks with
          | none => rw [hL] at h; cases h
          | some c => rw [hL] at h; cases h; obtain ⟨q0, q1, q2⟩ := sign_op ho; exact ((ihL c hL).append (j_plain _ _ _ _ q0 q1 q2))
        · cases h
      · cases h
    split at h
    · split at h
      · cases hL : exprL sl ks with
        | none => rw [hL] at h; cases h
        | some c => rw [hL] at h; cases h; exact ((ihL c hL).append (j_plain _ _ _ _ (by decide) (by decide) (by decide)))
      · cases h
    · cases h
theorem exprL_j (hi : Nat) (sl : List (List UInt8)) : ∀ (ks : List Nd) (new : List Value), exprL sl ks = some new → JOk hi new
  | [], new, h => by rw [exprL] at h; cases h; exact .nil
  | n :: r, new, h => by
    rw [exprL] at h
    have h1 := exprC_j hi sl n
    have h2 := exprL_j hi sl r
    cases ha : exprC sl n with
    | none => rw [ha] at h; cases h
    | some a => cases hb : exprL sl r with
      | none => rw [ha, hb] at h; cases h
      | some b => rw [ha, hb] at h; cases h; exact (h1 a ha).append (h2 b hb)
end
mutual
theorem stmtC_j : ∀ (nd : Nd) (n : Nat) (sl : List (List UInt8)) (o : Out), stmtC n sl nd = some o → JOk (n + cnt o.1) o.1
  | .mk k t x ks a, n, sl, o, h => by
    rw [stmtC.eq_def] at h
    simp only at h
    split at h
    · split at h
      · rename_i a1
        cases he : exprC sl a1 with
        | none => rw [he] at h; cases h
        | some e =>
          rw [he] at h
          cases hq : setC sl t.toList with
          | none => rw [hq] at h; cases h
          | some q => rw [hq] at h; cases h; exact ((exprC_j _ sl a1 e he).append (j_plain _ _ _ _ (by decide) (by decide) (by decide)))
      · cases h
    split at h
    · split at h
      · rename_i a1 b1 c1
        have hb := blockC_j b1
        have hc := blockC_j c1
        cases he : exprC sl a1 with
        | none => rw [he] at h; cases h
        | some e =>
          rw [he] at h
          simp only [Option.bind_some] at h
          have ge := (exprC_good sl a1 e he).len
          cases hp : blockC (n + cnt e + 1) sl b1 with
          | none => rw [hp] at h; cases h
          | some p =>
            rw [hp] at h
            simp only [Option.bind_some] at h
            have gp := (blockC_good b1 _ _ p hp).len
            split at h
            · split at h
              · cases h
                have hcn : cnt (e ++ ins 16 ((n + cnt e + 1 + cnt p.1 : Nat) : Int) f0 noText ++ p.1) = cnt e + 1 + cnt p.1 := by
                  rw [cnt_add (by simp [cnt]; have := ge; omega), cnt_add ge, cnt_ins]
                rw [show ((e ++ ins 16 ((n + cnt e + 1 + cnt p.1 : Nat) : Int) f0 noText ++ p.1, p.2) : Out).1 = e ++ ins 16 ((n + cnt e + 1 + cnt p.1 : Nat) : Int) f0 noText ++ p.1 from rfl, hcn]
                exact (((exprC_j _ sl a1 e he).append (j_ins _ _ _ _ (by decide) fun _ => ⟨by omega, by omega⟩)).append ((hb _ _ p hp).mono (by omega)))
              · cases h
            · cases hq : blockC (n + cnt e + 1 + cnt p.1 + 1) p.2 c1 with
              | none => rw [hq] at h; cases h
              | some q =>
                rw [hq] at h; cases h
                have gq := (blockC_good c1 _ _ q hq).len
                have hcn : cnt (e ++ ins 16 ((n + cnt e + 1 + cnt p.1 + 1 : Nat) : Int) f0 noText ++ p.1 ++ ins 15 ((n + cnt e + 1 + cnt p.1 + 1 + cnt q.1 : Nat) : Int) f0 noText ++ q.1) = cnt e + 1 + cnt p.1 + 1 + cnt q.1 := by
                  unfold cnt at *
                  simp only [List.length_append, List.length_cons, List.length_nil]
                  omega
                show JOk (n + cnt (e ++ ins 16 ((n + cnt e + 1 + cnt p.1 + 1 : Nat) : Int) f0 noText ++ p.1 ++ ins 15 ((n + cnt e + 1 + cnt p.1 + 1 + cnt q.1 : Nat) : Int) f0 noText ++ q.1)) _
                rw [hcn]
                exact (((((exprC_j _ sl a1 e he).append (j_ins _ _ _ _ (by decide) fun _ => ⟨by omega, by omega⟩)).append ((hb _ _ p hp).mono (by omega))).append (j_ins _ _ _ _ (by decide) fun _ => ⟨by omega, by omega⟩)).append ((hc _ _ q hq).mono (by omega)))
      · cases h
    split at h
    · split at h
      · rename_i a1 b1
        have hb := blockC_j b1
        cases he : exprC sl a1 with
        | none => rw [he] at h; cases h
        | some e =>
          rw [he] at h
          simp only [Option.bind_some] at h
          have ge := (exprC_good sl a1 e he).len
          cases hp : blockC (n + cnt e + 1) sl b1 with
          | none => rw [hp] at h; cases h
          | some p =>
            rw [hp] at h; cases h
            have gp := (blockC_good b1 _ _ p hp).len
            have hcn : cnt (e ++ ins 16 ((n + cnt e + 1 + cnt p.1 + 1 : Nat) : Int) f0 noText ++ p.1 ++ ins 15 (n : Int) f0 noText) = cnt e + 1 + cnt p.1 + 1 := by
              unfold cnt at *
              simp only [List.length_append, List.length_cons, List.length_nil]
              omega
            show JOk (n + cnt (e ++ ins 16 ((n + cnt e + 1 + cnt p.1 + 1 : Nat) : Int) f0 noText ++ p.1 ++ ins 15 (n : Int) f0 noText)) _
            rw [hcn]
            exact ((((exprC_j _ sl a1 e he).append (j_ins _ _ _ _ (by decide) fun _ => ⟨by omega, by omega⟩)).append ((hb _ _ p hp).mono (by omega))).append (j_ins _ _ _ _ (by decide) fun _ => ⟨by omega, by omega⟩))
      · cases h
    split at h
    · split at h
      · rename_i a1
        cases he : exprC sl a1 with
        | none => rw [he] at h; cases h
        | some e => rw [he] at h; cases h; exact ((exprC_j _ sl a1 e he).append (j_plain _ _ _ _ (by decide) (by decide) (by decide)))
      · cases h
    split at h
    · split at h
      · rename_i a1
        cases he : exprC sl a1 with
        | none => rw [he] at h; cases h
        | some e => rw [he] at h; cases h; exact ((exprC_j _ sl a1 e he).append (j_plain _ _ _ _ (by decide) (by decide) (by decide)))
      · cases h
    · cases h
theorem blockC_j : ∀ (nd : Nd) (n : Nat) (sl : List (List UInt8)) (o : Out), blockC n sl nd = some o → JOk (n + cnt o.1) o.1
  | .mk k t x ks a, n, sl, o, h => by
    rw [blockC] at h
    have ih := stmtL_j ks
    split at h
    · exact (ih n sl o h)
    · cases h
theorem stmtL_j : ∀ (ks : List Nd) (n : Nat) (sl : List (List UInt8)) (o : Out), stmtL n sl ks = some o → JOk (n + cnt o.1) o.1
  | [], n, sl, o, h => by rw [stmtL] at h; cases h; exact .nil
  | a :: r, n, sl, o, h => by
    rw [stmtL] at h
    have h1 := stmtC_j a
    have h2 := stmtL_j r
    cases hp : stmtC n sl a with
    | none => rw [hp] at h; cases h
    | some p =>
      rw [hp] at h
      simp only [Option.bind_some] at h
      cases hq : stmtL (n + cnt p.1) p.2 r with
      | none => rw [hq] at h; cases h
      | some q =>
        rw [hq] at h; cases h
        have gp := (stmtC_good a _ _ p hp).len
        have hcn : cnt (p.1 ++ q.1) = cnt p.1 + cnt q.1 := cnt_add gp
        show JOk (n + cnt (p.1 ++ q.1)) (p.1 ++ q.1)
        rw [hcn]
        exact ((h1 _ _ p hp).mono (by omega)).append ((h2 _ _ q hq).mono (by omega))
end
end Go.Proofs.Ytfkgfibmhhlemaa
namespace Go.Proofs.Ytfkgfibmhhlemaa
open Go.RowKit Go.Maps Go.WideMaps
/-- each instruction of a script's code -/
theorem script_at {nd : Nd} {code : List Value} (h : scriptC nd = some code) : ∃ m, cnt code = m + 1 ∧ code[m * 4]? = some (.int .i64 0) ∧ code[m * 4 + 1]? = some (.int .i64 0) ∧
    ∀ j, j < m → ∃ op arg, code[j * 4]? = some (.int .i64 op) ∧ code[j * 4 + 1]? = some (.int .i64 arg) ∧ op ≠ 0 ∧ (op = 15 ∨ op = 16 → 0 ≤ arg ∧ arg ≤ m) := by
  unfold scriptC at h
  cases hb : blockC 0 [] nd with
  | none => rw [hb] at h; cases h
  | some o =>
    rw [hb] at h
    have hg := (blockC_good nd 0 [] o hb).len
    have hj := blockC_j nd 0 [] o hb
    rw [Nat.zero_add] at hj
    have e : o.1 ++ ins 0 0 f0 noText = code := by simpa using h
    subst e
    refine ⟨cnt o.1, by rw [cnt_add hg, cnt_ins], ?_, ?_, fun j hjl => ?_⟩
    · rw [List.getElem?_append_right (by omega), hg]; simp
    · rw [List.getElem?_append_right (by omega), hg]; simp
    · obtain ⟨op, arg, h1, h2, h3, h4⟩ := hj.at j (by omega)
      exact ⟨op, arg, by rw [List.getElem?_append_left (by omega)]; exact h1, by rw [List.getElem?_append_left (by omega)]; exact h2, h3, h4⟩
theorem Gr.behind {w w1 w' : World} (g : Gr w w1) (h : Kp0 w1 w') : Gr w w' := ⟨h.os.trans g.os, h.output.trans g.output, Nat.le_trans g.size h.size, fun k hk => (h.block k (Nat.lt_of_lt_of_le hk g.size) fun e => e).trans (g.block k hk)⟩
set_option maxRecDepth 100000 in
set_option maxHeartbeats 4000000 in
theorem jumps_any (s : ByteArray) (w : World) (c7 : ∀ w1, Kp0 w w1 → Calls Try.prog 7 #[] w1 fun e w' => e = .returned (.bool true) ∧ Gr w1 w') :
    Calls Try.prog 5 #[.string s] w fun e w' => e = .returned (.bool true) ∧ Gr w w' := by
  have hsf := store_f
  go_enter Try.func5, Try.ntmps5
  go_wp2_with (go_at_call 7; refine Calls.mono (c7 w (kp_refl _ _)) ?_; rintro e w0 ⟨rfl, hg⟩; clear c7)
  refine Calls.mono (read_any s _) ?_
  rintro e w1 ⟨hk1, ⟨b, c, hc, rfl⟩ | ⟨nd, V, rfl, hn, hok, hwt⟩⟩
  · have hcb : (c != 0) = true := by simpa using hc
    have hk2 := hk1.alloc (.cells row0 25)
    go_wp2_with fail
    go_ret
    exact ⟨rfl, hg.behind hk2⟩
  · obtain ⟨k, t, x, ao, n, cp, a, rfl⟩ := hn.five
    have hk2 := hk1.alloc (.cells #[.int .i64 k, .string t, .float .f64 x, .slice ao n cp, .int .i64 a] 25)
    have hb2 := heap_alloc_new w1 (.cells #[.int .i64 k, .string t, .float .f64 x, .slice ao n cp, .int .i64 a] 25)
    have hR : ∀ j, New w0 w1 j → j < (w1.alloc (.cells #[.int .i64 k, .string t, .float .f64 x, .slice ao n cp, .int .i64 a] 25)).heap.size := fun j hj => by rw [World.size_alloc]; have := hj.2; omega
    have hN : NodeAt (New w0 w1) (w1.alloc (.cells #[.int .i64 k, .string t, .float .f64 x, .slice ao n cp, .int .i64 a] 25)) nd (.agg #[.int .i64 k, .string t, .float .f64 x, .slice ao n cp, .int .i64 a]) := hn.kept fun j hj => heap_alloc_old w1 _ hj.2
    have c9 := script_any nd (New w0 w1) _ (w1.alloc (.cells #[.int .i64 k, .string t, .float .f64 x, .slice ao n cp, .int .i64 a] 25)) hR hN (by omega)
    clear hR hN
    obtain ⟨y0, y1, y2, y3, y4⟩ := box5_of hb2
    cases hcode : scriptC nd with
    | none =>
      rw [hcode] at c9
      go_wp2_with (first
        | (go_at_call 9; refine Calls.mono c9 ?_; rintro e w3 ⟨rfl, hk3⟩; have hw3 := hk2.trans0 hk3; clear c9)
        | (go_at_call 12; refine Calls.mono (num_any _ _) ?_; rintro e w' ⟨rfl, rfl⟩))
      go_ret
      exact ⟨rfl, hg.behind hw3⟩
    | some code =>
      rw [hcode] at c9
      obtain ⟨m, hm, q0, q1, hq⟩ := script_at hcode
      have hm2 := scriptC_cnt hcode
      have hbig : m ≤ 65541 := by omega
      have c9' : Calls Try.prog 9 #[.agg #[.int .i64 k, .string t, .float .f64 x, .slice ao n cp, .int .i64 a]] (w1.alloc (.cells #[.int .i64 k, .string t, .float .f64 x, .slice ao n cp, .int .i64 a] 25)) fun e w3 => ∃ g c, e = .returned (.tuple #[.slice (some ⟨g, 0, none⟩) (m + 1) c, .int .i64 0]) ∧ w3.ownsRow (w1.alloc (.cells #[.int .i64 k, .string t, .float .f64 x, .slice ao n cp, .int .i64 a] 25)).heap.size 43 4 (.slice (some ⟨g, 0, none⟩) (m + 1) c) (m + 1) code ∧ Kp0 (w1.alloc (.cells #[.int .i64 k, .string t, .float .f64 x, .slice ao n cp, .int .i64 a] 25)) w3 := by
        refine c9.mono fun e w3 h9 => ?_
        have := coded_of (by omega) h9
        rwa [hm] at this
      clear c9 hcode hm hm2
      go_wp2_with (first
        | (go_at_call 9; refine Calls.mono c9' ?_; rintro e w3 ⟨g1, cc1, rfl, r1, hk3⟩; have hw3 := hk2.trans0 hk3; clear c9')
        | (go_at_call 12; refine Calls.mono (num_any _ _) ?_; rintro e w' ⟨rfl, hw'⟩; have hww := hw'.symm; subst hww))
      have e0 := own_at r1 q0
      go_loopw [8] (fun i wr => ∃ j : Nat, i = .int .i64 j ∧ j ≤ m + 1 ∧ wr = w3) (fun i _ => m + 1 - (intOf i).toNat)
      case atStart => exact ⟨0, rfl, by omega, rfl⟩
      case round =>
        obtain ⟨j, rfl, hj, rfl⟩ := hrel
        by_cases hlt : j < m
        · obtain ⟨op, arg, f0, f1, h0, hjj⟩ := hq j hlt
          have g0 := own_at r1 f0
          have g1' := own_at r1 f1
          have hop0 : (op == 0) = false := by simpa using h0
          clear e0 hq q0 q1
          cases h15 : (op == 15) <;> cases h16 : (op == 16)
          all_goals try (have hja := hjj (by first | exact .inl (by simpa using h15) | exact .inr (by simpa using h16)); have ha1 : decide (arg < 0) = false := (by simp; omega); have ha2 : decide (((m + 1 : Nat) : Int) ≤ arg) = false := (by simp; omega))
          all_goals
            go_wp2_with fail
          all_goals exact ⟨⟨j + 1, by simp, by omega, trivial⟩, by simp [intOf]; omega⟩
        · by_cases hjm : j = m
          · subst hjm
            go_wp2_with fail
            exact ⟨⟨j + 1, by simp, by omega, trivial⟩, by simp [intOf] <;> omega⟩
          · obtain rfl : j = m + 1 := by omega
            go_wp2_with fail
            go_ret
            exact ⟨rfl, hg.behind hw3⟩
end Go.Proofs.Ytfkgfibmhhlemaa
namespace Go.Proofs.Ytfkgfibmhhlemaa
open Go.ChangeShapes Go.WideShapes Go.ChangeAt Go.RowKit
set_option maxRecDepth 100000 in
theorem lifted5 (os : Os) (started : os.Started) (H : Type) (enc : TypeId × Value → H) :
    ReturnsInHanded {} Try.checked os 5 .any (Rows.compileJumpsSpec.pre6 enc Try.prog Try.f5 Rows.compileJumpsRow.domain false) (Rows.compileJumpsSpec.post enc Try.prog Try.f5 false true false false) := by
  refine returnsInHanded_of_change_shaped (C := Try.checked) own started (by kernel_rfl) Try.func5
    (ChangeSpec.witness6 (enc := enc) (C := Try.checked) false ⟨#[], #[.string ⟨#[]⟩], []⟩ 8 (by kernel_rfl) (by kernel_rfl) (by kernel_rfl) (by kernel_rfl)) ?_
  intro W base args ds gs before hval0 hW _ _ hsh _
  have hW' := hW
  obtain ⟨p, q, hA0, hV, rfl, _, _⟩ := hW
  have hA : DataW.TrodAll enc Try.prog W 0 (fun _ => true) true Try.f5.params.toList args.toList ds p := hA0
  rw [Try.params5] at hA
  obtain ⟨v0, d0, hargs, rfl, h0⟩ := trodAll_one hA
  obtain rfl : args = #[v0] := by cases args; simp_all
  obtain ⟨rfl, rfl⟩ := trodVars_none hV
  have hv : ∃ t, v0 = .string t := by
    have : Value.okWide Try.prog W .any base 9 v0 := hval0 0 9 v0 (by rw [← Array.getElem?_toList, Try.params5]; rfl) rfl
    unfold Value.okWide at this
    rw [Try.underlying9] at this
    cases v0 with
    | string t => exact ⟨t, rfl⟩
    | _ => first | exact this.elim | (exfalso; revert this; simp)
  obtain ⟨t, rfl⟩ := hv
  have hlt : ∀ x ∈ p, x.block < W.heap.size := fun x hx => by simpa using hW'.lt x (List.mem_append_left _ hx)
  refine (jumps_any t W (awake_any (heap_size hsh))).mono fun e W' ⟨he, hg⟩ => ?_
  subst he
  refine ⟨_, rfl, ⟨_, _, _, [], p, [], hW', trodAll_mk1 (shut_bool Try.underlying4 _), ?_, rfl, hg.keptBut, fun h => by cases h⟩⟩
  rw [Try.params5]
  exact trodAll_mk1 (WideElems.Trod_stays (by kernel_rfl) (by kernel_rfl) (of_decide_eq_true (by kernel_rfl)) h0 (fun x hx => hg.same (hlt x hx)) (fun x hx => by simpa using hlt x hx))
theorem named5 : Try.pinned.checked.prog.funcNamed Rows.compileJumpsRow.func = some 5 := by kernel_rfl
theorem inst5 : Try.f5.isInstance Try.prog Rows.compileJumpsRow.origin Rows.compileJumpsRow.targs := of_decide_eq_true (by kernel_rfl)
theorem wrap5 : Try.f5.isWrapper Try.prog Rows.compileJumpsRow.wrapper Rows.compileJumpsRow.mainSum := by unfold Func.isWrapper; first | (rw [if_pos (by decide +kernel)]; kernel_rfl) | (rw [if_neg (by decide +kernel)]; exact ⟨rfl, rfl⟩)
/-- the statement -/
theorem jumps_holds : Rows.CompileJumpsSaid :=
  OpenClaim.holds_of_wide 5 Try.f5 rfl rfl rfl rfl rfl rfl rfl ⟨rfl, rfl, rfl, rfl, rfl⟩ rfl rfl rfl rfl rfl named5 Try.func5 (by kernel_rfl)
    inst5 wrap5 (fun os started H enc _ => lifted5 os started H enc)
#print axioms jumps_holds
end Go.Proofs.Ytfkgfibmhhlemaa

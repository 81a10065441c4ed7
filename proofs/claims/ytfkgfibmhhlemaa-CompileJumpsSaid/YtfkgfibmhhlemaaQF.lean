/- CompileTrees: a part of the proof (F0 F1 F2 F3 F4). No conditions. -/
import Derived.Test.YtfkgfibmhhlemaaQE
import Derived.Defers
import Derived.Recover
import Derived.Laws.Pointers
namespace Go.Proofs.Ytfkgfibmhhlemaa
open Go.RowKit Go.Maps Go.WideMaps
section
variable {R : Nat → Prop} {sl sl1 sl2 : List (List UInt8)} {w w1 w2 : World} {B b mb n : Nat} {v v1 v2 : Value} {xs new new2 : List Value} {nb no kb ko ln cap : Nat} {k : Int} {t : ByteArray} {x : Nat} {S : Value} {ks : List Nd} {a : Int}
/-- a branch with another -/
theorem stmt_10b (k1 k2 k3 : Nd) (h3 : k3.kind ≠ 0) (ih : NodeOk 18 blockC k2) (ih3 : NodeOk 18 blockC k3) (hC : Cst R sl w B b mb v n xs) (hx : ∀ u ∈ xs, u.oneCell' = true) (hn : NodeP R w nb no 10 t x (.slice (some ⟨kb, ko, none⟩) 3 cap) [k1, k2, k3] a)
    (hs : n + 2 * (1 + t.size + (k1.wt + (k2.wt + (k3.wt + 0)))) + 1 ≤ 3518437208883) :
    Does 27 #[pt b 0, pt nb no] w (Laid R (stmtC n sl (.mk 10 t x [k1, k2, k3] a)) w B b mb v n xs) (Thrown (stmtC n sl (.mk 10 t x [k1, k2, k3] a)) w b mb v) := by
  rw [stmtC.eq_def]
  simp only [show ¬ (10 : Int) = 9 by decide, if_false, if_true, h3]
  have hxl : xs.length = n * 4 := hC.em.own.1
  have w1p := wt_pos k1
  have w3p := wt_pos k3
  obtain ⟨kk, kt, kx, S3, kks, ka, e3, hn3⟩ := hn.kid 2 (by simp)
  simp only [List.getElem_cons_succ, List.getElem_cons_zero] at e3
  rw [show 2 * 5 = 10 from rfl] at hn3
  have hkk : (kk == 0) = false := by rw [e3] at h3; simpa [Nd.kind] using h3
  refine stmt_if2 _ (fun w1 => ∃ ce v1, exprC sl k1 = some ce ∧ Steps R sl w B b mb v n xs ce v1 w1)
    (fun e1 a1 w2 => ∃ ce v2, exprC sl k1 = some ce ∧ Steps R sl w B b mb v n xs (ce ++ ins 16 0 f0 noText) v2 w2 ∧ Jump w2 b mb e1 a1 (n + cnt ce) v2)
    (fun e1 a1 w3 => ∃ ce p sl2 v3, exprC sl k1 = some ce ∧ blockC (n + cnt ce + 1) sl k2 = some (p, sl2) ∧ Steps R sl2 w B b mb v n xs (ce ++ ins 16 0 f0 noText ++ p) v3 w3 ∧ Jump w3 b mb e1 a1 (n + cnt ce) v3)
    b w R nb no kb ko t x cap _ a
    (fun e1 a1 e2 a2 w4 => ∃ ce p sl2 v4, exprC sl k1 = some ce ∧ blockC (n + cnt ce + 1) sl k2 = some (p, sl2) ∧ Steps R sl2 w B b mb v n xs (ce ++ ins 16 0 f0 noText ++ (p ++ ins 15 0 f0 noText)) v4 w4 ∧ Jump w4 b mb e1 a1 (n + cnt ce) v4 ∧ Jump w4 b mb e2 a2 (n + cnt ce + 1 + cnt p) v4)
    (fun e2 a2 w5 => ∃ ce p sl2 v5, exprC sl k1 = some ce ∧ blockC (n + cnt ce + 1) sl k2 = some (p, sl2) ∧ Steps R sl2 w B b mb v n xs (ce ++ ins 16 (n + cnt ce + 1 + cnt p + 1 : Nat) f0 noText ++ p ++ ins 15 0 f0 noText) v5 w5 ∧ Jump w5 b mb e2 a2 (n + cnt ce + 1 + cnt p) v5)
    (fun e2 a2 w6 => ∃ ce p sl2 q sl3 v6, exprC sl k1 = some ce ∧ blockC (n + cnt ce + 1) sl k2 = some (p, sl2) ∧ blockC (n + cnt ce + 1 + cnt p + 1) sl2 k3 = some (q, sl3) ∧ Steps R sl3 w B b mb v n xs (ce ++ ins 16 (n + cnt ce + 1 + cnt p + 1 : Nat) f0 noText ++ p ++ ins 15 0 f0 noText ++ q) v6 w6 ∧ Jump w6 b mb e2 a2 (n + cnt ce + 1 + cnt p) v6)
    _ kk hkk hn ((expr_does hC hn rfl (by omega)).mono (fun _ h => h) fun w1 h => ?_) (fun w1 ⟨ce, v1, hc, hst⟩ => ?_) (fun e1 a1 w2 ⟨ce, v2, hc, hst, hJ⟩ => ?_) (fun e1 a1 w2 ⟨ce, v2, hc, hst, hJ⟩ => ?_) (fun e1 a1 w3 ⟨ce, p, sl2, v3, hc, hp, hst, hJ⟩ => ?_) (fun e1 a1 w3 ⟨ce, p, sl2, v3, hc, hp, hst, hJ⟩ => ?_) (fun e1 a1 e2 a2 w4 ⟨ce, p, sl2, v4, hc, hp, hst, hJ, hJ2⟩ => ?_) (fun e2 a2 w5 ⟨ce, p, sl2, v5, hc, hp, hst, hJ⟩ => ?_) (fun e2 a2 w5 ⟨ce, p, sl2, v5, hc, hp, hst, hJ⟩ => ?_) (fun e2 a2 w6 ⟨ce, p, sl2, q, sl3, v6, hc, hp, hq, hst, hJ⟩ => ?_)
  · rw [h.1]; exact ⟨rfl, h.2⟩
  · have hg := (exprC_good sl k1 ce hc).cnt
    exact (open_more hst (by omega) 16 _).mono (fun _ _ _ ⟨v', h2, hJ, _⟩ => ⟨ce, v', hc, h2, hJ⟩) fun _ h => h
  · exact (hn.kept (hst.rblock hC)).c3
  · have hg := exprC_good sl k1 ce hc
    have hgc := hg.cnt
    have hc1 : cnt (ce ++ ins 16 0 f0 noText) = cnt ce + 1 := by rw [cnt_add hg.len, cnt_ins]
    have hd := block_more ih hst hC hx hn 1 (by simp) rfl (by rw [hc1]; omega)
    simp only [hc1, ← Nat.add_assoc, Nat.one_mul] at hd
    refine hd.mono (fun w3 ⟨p, sl2, v3, hp, h3, hJ3⟩ => ⟨ce, p, sl2, v3, hc, hp, h3, hJ3 _ _ _ hJ⟩) fun w3 ⟨hp, h3⟩ => ⟨?_, h3⟩
    rw [hc]; simp only [Option.bind_some]; rw [hp]; rfl
  · exact ⟨(hn.kept (hst.rblock hC)).c3, (hn3.kept (hst.rblock hC)).c0⟩
  · have hg := exprC_good sl k1 ce hc
    have hgc := hg.cnt
    have hgp := blockC_good k2 _ _ _ hp
    have hgpc := hgp.cnt
    simp only at hgpc
    have hc1 : cnt (ce ++ ins 16 0 f0 noText ++ p) = cnt ce + 1 + cnt p := by rw [cnt_add (hg.append (good_ins _ _ _ _)).len, cnt_add hg.len, cnt_ins]
    refine (open_more hst (by rw [hc1]; omega) 15 _).mono (fun e2 a2 w4 ⟨v', h2, hJ2, hJs⟩ => ⟨ce, p, sl2, v', hc, hp, by rwa [List.append_assoc] at h2, hJs _ _ _ hJ, ?_⟩) fun _ h => h
    rw [hc1, ← Nat.add_assoc, ← Nat.add_assoc] at hJ2
    exact hJ2
  · have hg := exprC_good sl k1 ce hc
    have hgc := hg.cnt
    have hgp := blockC_good k2 _ _ _ hp
    have hgpc := hgp.cnt
    simp only at hgpc
    have hc1 : cnt (ce ++ ins 16 0 f0 noText ++ (p ++ ins 15 0 f0 noText)) = cnt ce + 1 + (cnt p + 1) := by rw [cnt_add (hg.append (good_ins _ _ _ _)).len, cnt_add hg.len, cnt_add hgp.len, cnt_ins, cnt_ins]
    refine (shut_one hx hxl hst hg.len hJ rfl (by rw [hc1]; omega) _).mono (fun w5 h5 => ⟨ce, p, sl2, v4, hc, hp, ?_, h5.2 _ _ _ hJ2⟩) fun _ h => h
    have h6 := h5.1
    rw [hc1, show n + (cnt ce + 1 + (cnt p + 1)) = n + cnt ce + 1 + cnt p + 1 by omega, ← List.append_assoc] at h6
    exact h6
  · exact (hn.kept (hst.rblock hC)).c3
  · have hg := exprC_good sl k1 ce hc
    have hgc := hg.cnt
    have hgp := blockC_good k2 _ _ _ hp
    have hgpc := hgp.cnt
    simp only at hgpc
    have hc1 : cnt (ce ++ ins 16 (n + cnt ce + 1 + cnt p + 1 : Nat) f0 noText ++ p ++ ins 15 0 f0 noText) = cnt ce + 1 + cnt p + 1 := by rw [cnt_add ((hg.append (good_ins _ _ _ _)).append hgp).len, cnt_add (hg.append (good_ins _ _ _ _)).len, cnt_add hg.len, cnt_ins, cnt_ins]
    have hd := block_more ih3 hst hC hx hn 2 (by simp) rfl (by rw [hc1]; omega)
    simp only [hc1, ← Nat.add_assoc, show 2 * 5 = 10 from rfl] at hd
    refine hd.mono (fun w6 ⟨q, sl3, v6, hq, h6, hJ6⟩ => ⟨ce, p, sl2, q, sl3, v6, hc, hp, hq, h6, hJ6 _ _ _ hJ⟩) fun w6 ⟨hq, h6⟩ => ⟨?_, h6⟩
    rw [hc]; simp only [Option.bind_some]; rw [hp]; simp only [Option.bind_some]; rw [hq]; rfl
  · have hg := exprC_good sl k1 ce hc
    have hgc := hg.cnt
    have hgp := blockC_good k2 _ _ _ hp
    have hgpc := hgp.cnt
    simp only at hgpc
    have hgq := blockC_good k3 _ _ _ hq
    have hgqc := hgq.cnt
    simp only at hgqc
    have hg3 := (hg.append (good_ins 16 (n + cnt ce + 1 + cnt p + 1 : Nat) 0 noText)).append hgp
    have hc3 : cnt (ce ++ ins 16 (n + cnt ce + 1 + cnt p + 1 : Nat) f0 noText ++ p) = cnt ce + 1 + cnt p := by rw [cnt_add (hg.append (good_ins _ _ _ _)).len, cnt_add hg.len, cnt_ins]
    have hc1 : cnt (ce ++ ins 16 (n + cnt ce + 1 + cnt p + 1 : Nat) f0 noText ++ p ++ ins 15 0 f0 noText ++ q) = cnt ce + 1 + cnt p + 1 + cnt q := by rw [cnt_add (hg3.append (good_ins _ _ _ _)).len, cnt_add hg3.len, hc3, cnt_ins]
    refine (shut_one hx hxl hst hg3.len hJ (by rw [hc3]; omega) (by rw [hc1]; omega) _).mono (fun w7 h7 => ⟨_, sl3, v6, ?_, h7.1⟩) fun _ h => h
    rw [hc]
    simp only [Option.bind_some]
    rw [hp]
    simp only [Option.bind_some]
    rw [hq, hc1]
    simp [Nat.add_assoc]
theorem stmt_10 (ih : ∀ i (h : i < ks.length), NodeOk 18 blockC ks[i]) (hC : Cst R sl w B b mb v n xs) (hx : ∀ u ∈ xs, u.oneCell' = true) (hn : NodeP R w nb no 10 t x S ks a) (hs : n + 2 * Nd.wt (.mk 10 t x ks a) + 1 ≤ 3518437208883) (sl0 : Option Addr) (cc : Nat) (hb : v = .slice sl0 n cc) :
    Does 27 #[pt b 0, pt nb no] w (Laid R (stmtC n sl (.mk 10 t x ks a)) w B b mb v n xs) (Thrown (stmtC n sl (.mk 10 t x ks a)) w b mb v) := by
  rw [Nd.wt] at hs
  by_cases h1 : ks.length = 3
  · obtain ⟨kb, ko, cap, rfl, _, _⟩ := hn.len.some (by omega)
    obtain ⟨k1, k2, k3, rfl⟩ : ∃ k1 k2 k3, ks = [k1, k2, k3] := by
      match ks, h1 with
      | [k1, k2, k3], _ => exact ⟨k1, k2, k3, rfl⟩
    rw [wtL, wtL, wtL, wtL] at hs
    by_cases h3 : k3.kind = 0
    · exact stmt_10a k1 k2 k3 h3 (ih 1 (by simp)) hC hx hn hs
    · exact stmt_10b k1 k2 k3 h3 (ih 1 (by simp)) (ih 2 (by simp)) hC hx hn hs
  · obtain ⟨ao, cap, rfl, hl⟩ := hn.len.slice
    rw [stmtC_many n sl t x ks a 10 3 (by decide) h1]
    exact stmt_many _ _ b w R nb no t x cap ks a 10 3 (by decide) hl h1 ao sl0 n cc (hb ▸ hC.em.cell) hn ⟨rfl, kp_refl _ _⟩
end
end Go.Proofs.Ytfkgfibmhhlemaa
namespace Go.Proofs.Ytfkgfibmhhlemaa
open Go.RowKit Go.Maps Go.WideMaps
theorem slotGo_append (s t : List UInt8) : ∀ (l : List (List UInt8)) (i : Nat), slotGo s (l ++ [t]) i = match slotGo s l i with
    | some j => some j
    | none => bif t == s then some ((i + l.length : Nat) : Int) else none
  | [], i => by simp [slotGo]
  | u :: r, i => by
    simp only [List.cons_append, slotGo]
    cases hb : u == s with
    | true => rfl
    | false =>
      simp only [cond_false]
      rw [slotGo_append s t r (i + 1)]
      simp only [List.length_cons]
      rw [show i + 1 + r.length = i + (r.length + 1) by omega]
theorem slotOf_new {l : List (List UInt8)} {t : List UInt8} (h : slotOf l t = none) (s : List UInt8) : slotOf (l ++ [t]) s = bif t == s then some (l.length : Int) else slotOf l s := by
  unfold slotOf at h ⊢
  rw [slotGo_append]
  cases hb : t == s with
  | true =>
    have : t = s := by simpa using hb
    subst this
    rw [h]; simp
  | false => cases slotGo s l 0 <;> rfl
theorem wf_small : ∀ m : Nat, m < 64 → (Lit.int .i64 (m : Int)).wf = true := by decide
section
variable {R : Nat → Prop} {sl sl1 sl2 : List (List UInt8)} {w w1 w2 : World} {B b mb n : Nat} {v v1 v2 : Value} {xs new new2 : List Value} {nb no kb ko ln cap : Nat} {k : Int} {t : ByteArray} {x : Nat} {S : Value} {ks : List Nd} {a : Int}
theorem Cst.drew (h : Cst R sl w B b mb v n xs) : Cst R sl w.drew B b mb v n xs := ⟨⟨h.em.cell, h.em.fz, h.em.own, h.em.ne⟩, h.rB, h.bb, h.bm, h.ne, h.own, h.cell, h.map⟩
/-- a new name -/
theorem Cst.named (hC : Cst R sl w B b mb v n xs) (ht : t.size ≤ maxLen) (hs : slotOf sl t.toList = none) (hl : sl.length < 64) :
    ∃ w', (Instr.mapUpdate 49 (.map (some mb)) (.string t) (.int .i64 sl.length)).run Try.prog w = .ok () w' ∧ Steps R (sl ++ [t.toList]) w B b mb v n xs [] v w' := by
  obtain ⟨D, hown, hsz, hat⟩ := hC.map
  obtain ⟨w', hr, hown', hg⟩ := hown.update law9 Try.underlying49 (by unfold maxLen; omega) (key9 t ht) (RI_int (wf_small _ hl))
  have hblk : ∀ k, k < w.heap.size → k ≠ mb → w'.heap[k]? = w.heap[k]? := fun k hk hne => hg.block k hk fun e => hne (by injection e)
  have hb := hblk b hC.em.lt hC.ne.symm
  refine ⟨w', hr, ⟨⟨?_, ?_, ?_, hC.em.ne⟩, hC.rB, hC.bb, hC.bm, hC.ne, hC.own, (World.cell?_of_block hb).trans hC.cell, ?_⟩, by simp, rfl, ⟨hg.os, hg.tape, hg.output, hg.size, fun k hk hS => hblk k hk fun e => hS (.inr (.inl e))⟩, fun _ h => .inl h⟩
  · exact (World.cell?_of_block hb).trans hC.em.cell
  · exact (World.frozen?_of_block hb).trans hC.em.fz
  · rw [List.append_nil]; exact hC.em.own.kept hg (.inr hC.own)
  · refine ⟨_, by rw [List.length_append]; exact hown', ?_, fun s => ?_⟩
    · have hn := (hat t.data.toList).has
      rw [← ByteArray.toList_eq, hs] at hn
      rw [Maps.size_put (hown.tidy law9), List.length_append, hsz, ← ByteArray.toList_eq, hn]
      simp
    · rw [slotOf_new hs]
      have := (hat s).put t.data.toList sl.length
      rw [← ByteArray.toList_eq] at this ⊢
      exact this
/-- what a look-up tells -/
theorem Cst.look (hC : Cst R sl w B b mb v n xs) (ht : t.size ≤ maxLen) : (Instr.lookup 49 (.map (some mb)) (.string t) true).run Try.prog w = .ok (.tuple #[.int .i64 ((slotOf sl t.toList).getD 0), .bool (slotOf sl t.toList).isSome]) w := by
  obtain ⟨D, hown, hsz, hat⟩ := hC.map
  have := hat t.data.toList
  rw [ByteArray.toList_eq]
  exact look_run ht hown this
theorem stmt_9 (hC : Cst R sl w B b mb v n xs) (hn : NodeP R w nb no 9 t x S ks a) (hs : n + 2 * Nd.wt (.mk 9 t x ks a) + 1 ≤ 3518437208883) (sl0 : Option Addr) (cc : Nat) (hb : v = .slice sl0 n cc) :
    Does 27 #[pt b 0, pt nb no] w (Laid R (stmtC n sl (.mk 9 t x ks a)) w B b mb v n xs) (Thrown (stmtC n sl (.mk 9 t x ks a)) w b mb v) := by
  rw [Nd.wt] at hs
  have ht : t.size ≤ maxLen := by unfold maxLen; omega
  by_cases h1 : ks.length = 1
  · obtain ⟨kb, ko, cap, rfl, _, _⟩ := hn.len.some (by omega)
    obtain ⟨kd, rfl⟩ : ∃ kd, ks = [kd] := by
      match ks, h1 with
      | [kd], _ => exact ⟨kd, rfl⟩
    rw [wtL, wtL] at hs
    rw [stmtC.eq_def]
    simp only [if_true]
    have hex := expr_does hC hn rfl (by omega)
    cases hsl : slotOf sl t.toList with
    | some i =>
      have hsc : setC sl t.toList = some (i, sl) := by unfold setC; rw [hsl]
      rw [hsc]
      refine stmt_set _ (fun w1 => ∃ ce v1, exprC sl kd = some ce ∧ Steps R sl w B b mb v n xs ce v1 w1) _ b w R nb no kb ko t x cap _ a mb i hn (hex.mono (fun _ h => h) fun w1 h => ?_) (fun w1 ⟨ce, v1, hc, hst⟩ => ?_) fun w1 ⟨ce, v1, hc, hst⟩ => ?_
      · rw [h.1]; exact ⟨rfl, h.2⟩
      · have hk := hst.st.look ht
        have hk2 := hst.drew.st.look ht
        rw [hsl] at hk hk2
        exact ⟨hst.st.cell, (hn.kept (hst.rblock hC)).c1, hk, hk2⟩
      · have hg := (exprC_good sl kd ce hc).cnt
        refine (put_more hst.drew (by omega) 4 i _).mono (fun w2 ⟨v2, h2⟩ => ?_) fun _ h => h
        rw [hc]; exact ⟨_, _, v2, rfl, h2⟩
    | none =>
      have hlook : ∀ w1 ce v1, Steps R sl w B b mb v n xs ce v1 w1 → w1.cell? ⟨b, 1, none⟩ = some (.map (some mb)) ∧ w1.cell? ⟨nb, no + 1, none⟩ = some (.string t) ∧ (Instr.lookup 49 (.map (some mb)) (.string t) true).run Try.prog w1 = .ok (.tuple #[.int .i64 0, .bool false]) w1 ∧ (Instr.lookup 49 (.map (some mb)) (.string t) true).run Try.prog w1.drew = .ok (.tuple #[.int .i64 0, .bool false]) w1.drew ∧ ∃ D : DataW Unit, Maps.size D = sl.length ∧ w1.drew.ownsMap Try.prog 9 RI mb sl.length D := fun w1 ce v1 hst => by
        have hk := hst.st.look ht
        have hk2 := hst.drew.st.look ht
        rw [hsl] at hk hk2
        obtain ⟨D, hown, hsz, _⟩ := hst.drew.st.map
        exact ⟨hst.st.cell, (hn.kept (hst.rblock hC)).c1, hk, hk2, D, hsz, hown⟩
      by_cases hl : sl.length < 64
      · have hsc : setC sl t.toList = some ((sl.length : Int), sl ++ [t.toList]) := by unfold setC; rw [hsl]; simp [hl]
        rw [hsc]
        refine stmt_set_new _ (fun w1 => ∃ ce v1, exprC sl kd = some ce ∧ Steps R sl w B b mb v n xs ce v1 w1) _ b w R nb no kb ko t x cap _ a mb sl.length hl hn (hex.mono (fun _ h => h) fun w1 h => ?_) (fun w1 ⟨ce, v1, hc, hst⟩ => hlook w1 ce v1 hst) fun w1 ⟨ce, v1, hc, hst⟩ => ?_
        · rw [h.1]; exact ⟨rfl, h.2⟩
        · have hg := (exprC_good sl kd ce hc).cnt
          obtain ⟨w2, hr, h2⟩ := hst.drew.drew.st.named ht hsl hl
          have h3 := hst.drew.drew.trans h2
          rw [List.append_nil] at h3
          refine ⟨w2, hr, (put_more h3 (by omega) 4 sl.length _).mono (fun w3 ⟨v3, h4⟩ => ?_) fun _ h => h⟩
          rw [hc]; exact ⟨_, _, v3, rfl, h4⟩
      · have hsc : setC sl t.toList = none := by unfold setC; rw [hsl]; simp [hl]
        rw [hsc]
        refine stmt_set_many _ (fun w1 => ∃ ce v1, exprC sl kd = some ce ∧ Steps R sl w B b mb v n xs ce v1 w1) _ b w R nb no kb ko t x cap _ a mb sl.length (by omega) hn (hex.mono (fun _ h => h) fun w1 h => ?_) (fun w1 ⟨ce, v1, hc, hst⟩ => hlook w1 ce v1 hst) fun w1 ⟨ce, v1, hc, hst⟩ => ?_
        · rw [h.1]; exact ⟨rfl, h.2⟩
        · rw [hc]; exact ⟨rfl, hst.drew.kept⟩
  · obtain ⟨ao, cap, rfl, hl⟩ := hn.len.slice
    rw [stmtC_many n sl t x ks a 9 1 (by decide) h1]
    exact stmt_many _ _ b w R nb no t x cap ks a 9 1 (by decide) hl h1 ao sl0 n cc (hb ▸ hC.em.cell) hn ⟨rfl, kp_refl _ _⟩
end
end Go.Proofs.Ytfkgfibmhhlemaa
namespace Go.Proofs.Ytfkgfibmhhlemaa
open Go.RowKit Go.Maps Go.WideMaps
section
variable {R : Nat → Prop} {sl sl1 sl2 : List (List UInt8)} {w w1 w2 : World} {B b mb n : Nat} {v v1 v2 : Value} {xs new new2 : List Value} {nb no kb ko ln cap : Nat} {k : Int} {t : ByteArray} {x : Nat} {S : Value} {ks : List Nd} {a : Int}
theorem stmt_node (k : Int) (t : ByteArray) (x : Nat) (ks : List Nd) (a : Int) (ih : ∀ i (h : i < ks.length), NodeOk 18 blockC ks[i]) : NodeOk 27 stmtC (.mk k t x ks a) := by
  intro R sl w B b mb v n xs nb no k t x S ks a e hC hx hn hs
  cases e
  obtain ⟨sl0, cc, hb⟩ := hC.em.slice
  by_cases h9 : k = 9
  · subst h9; exact stmt_9 hC hn hs sl0 cc hb
  by_cases h10 : k = 10
  · subst h10; exact stmt_10 ih hC hx hn hs sl0 cc hb
  by_cases h11 : k = 11
  · subst h11; exact stmt_11 ih hC hx hn hs sl0 cc hb
  by_cases h12 : k = 12
  · subst h12; exact stmt_12 hC hn hs sl0 cc hb
  by_cases h13 : k = 13
  · subst h13; exact stmt_13 hC hn hs sl0 cc hb
  rw [stmtC.eq_def]
  simp only [h9, h10, h11, h12, h13, if_false]
  exact stmt_kind_no _ _ b w R nb no t x ks a k (by simpa using h9) (by simpa using h10) (by simpa using h11) (by simpa using h12) (by simpa using h13) S hn ⟨rfl, kp_refl _ _⟩
theorem block_node (k : Int) (t : ByteArray) (x : Nat) (ks : List Nd) (a : Int) (ih : ∀ i (h : i < ks.length), NodeOk 27 stmtC ks[i]) : NodeOk 18 blockC (.mk k t x ks a) := by
  intro R sl w B b mb v n xs nb no k t x S ks a e hC hx hn hs
  cases e
  rw [Nd.wt] at hs
  rw [blockC]
  by_cases h8 : k = 8
  · rw [if_pos h8]
    subst h8
    rcases hn.len with ⟨h0, q, cq, rfl, _⟩ | ⟨kb, ko, cap, rfl, hl, hcap⟩
    · obtain rfl := List.eq_nil_of_length_eq_zero h0
      exact block_nil _ b w R nb no t x [] a _ hn ⟨[], sl, v, by rw [stmtL], Steps.nil hC⟩
    · unfold maxLen at hcap
      have hw := block_walk (Thrown (stmtL n sl ks) w b mb v) (fun j w1 => ∃ new sl' v1, stmtL n sl (ks.take j) = some (new, sl') ∧ Steps R sl' w B b mb v n xs new v1 w1) b w R nb no kb ko t x cap ks a hn hl hcap
        ⟨[], sl, v, by rw [List.take_zero, stmtL], Steps.nil hC⟩ (fun j w1 ⟨new, sl', v1, _, hst⟩ => (hn.kept (hst.rblock hC)).c3) (fun j w1 hj ⟨new, sl', v1, hc, hst⟩ => ?_)
      · refine hw.mono (fun w1 ⟨new, sl', v1, hc, hst⟩ => ?_) fun _ h => h
        rw [List.take_length] at hc
        exact ⟨new, sl', v1, hc, hst⟩
      · have hg := stmtL_good _ _ _ _ hc
        have hgc := hg.cnt
        simp only at hgc
        have hwt := wtL_take ks j hj
        refine ((ih j hj).at hst.st (hst.ones hx) (hn.kept (hst.rblock hC)) j hj rfl (by omega)).mono (fun w2 ⟨q, sl2, v2, hq, h2⟩ => ⟨new ++ q, sl2, v2, ?_, hst.trans h2⟩) fun w2 ⟨hq, h2⟩ => ⟨stmtL_none ks n sl j hj ?_, hst.kept.trans3 hst.fresh h2⟩
        · rw [stmtL_take ks n sl j hj, hc]; simp only [Option.bind_some]; rw [hq]; rfl
        · rw [stmtL_take ks n sl j hj, hc]; simp only [Option.bind_some]; rw [hq]; rfl
  · rw [if_neg h8]
    exact block_kind_no _ b w R nb no t x ks a _ k (by simpa using h8) S hn ⟨rfl, kp_refl _ _⟩
end
mutual
theorem stmt_any : ∀ nd, NodeOk 27 stmtC nd
  | .mk k t x ks a => stmt_node k t x ks a (block_all ks)
theorem block_any : ∀ nd, NodeOk 18 blockC nd
  | .mk k t x ks a => block_node k t x ks a (stmt_all ks)
theorem block_all : ∀ (ks : List Nd) (i : Nat) (h : i < ks.length), NodeOk 18 blockC ks[i]
  | [], _, h => absurd h (Nat.not_lt_zero _)
  | n :: _, 0, _ => block_any n
  | _ :: r, i + 1, h => block_all r i (Nat.lt_of_succ_lt_succ h)
theorem stmt_all : ∀ (ks : List Nd) (i : Nat) (h : i < ks.length), NodeOk 27 stmtC ks[i]
  | [], _, h => absurd h (Nat.not_lt_zero _)
  | n :: _, 0, _ => stmt_any n
  | _ :: r, i + 1, h => stmt_all r i (Nat.lt_of_succ_lt_succ h)
end
end Go.Proofs.Ytfkgfibmhhlemaa
namespace Go.Proofs.Ytfkgfibmhhlemaa
open Go.RowKit Go.Maps Go.WideMaps
theorem mine (w : World) : (Instr.typeAssert (.iface 46 (.agg #[])) 20 46 true).run Try.prog w = .ok (.tuple #[.agg #[], .bool true]) w := by kernel_rfl
set_option maxRecDepth 100000 in
theorem catch_thrown (p q : Nat) (w : World) (a c : Value) (hp : w.cell? ⟨p, 0, none⟩ = some a) (hq : w.cell? ⟨q, 0, none⟩ = some c) (hpz : w.frozen? ⟨p, 0, none⟩ = false) (hqz : w.frozen? ⟨q, 0, none⟩ = false) (hpq : p ≠ q) :
    CallsD Try.prog 17 #[pt p 0, pt q 0] (.panicking [{ v := .iface 46 (.agg #[]), recovered := false }]) w fun e u' w' =>
      e = .returned (.tuple #[]) ∧ u' = .panicking [{ v := .iface 46 (.agg #[]), recovered := true }] ∧ w' = ((w.setCell ⟨p, 0, none⟩ (.slice none 0 0)).setCell ⟨q, 0, none⟩ (.int .i64 2100)).alloc (.cells #[] 46) := by
  refine callsD_of_wpS Try.func17 rfl fun c₀ cs hu => ?_
  simp only [Try.ntmps17, List.size_toArray, List.length_cons, List.length_nil, Nat.reduceAdd, Nat.reduceSub, Array.replicate_succ,
     Array.replicate_zero, List.push_toArray, List.append_toArray, List.nil_append, List.cons_append]
  apply wpS_seq
  apply wpS_region
  simp [wpOpsS, go_sem, recoverD, hu, Exit.thenS]
  refine wpS_of_wp ?_
  have hta := mine
  have lp := World.block_lt_of_cell? w _ hp
  have lq := World.block_lt_of_cell? w _ hq
  have f1 : ∀ o, (w.alloc o).cell? ⟨p, 0, none⟩ = some a := fun o => (World.cell?_of_block (heap_alloc_old w o lp)).trans hp
  have f2 : ∀ o, (w.alloc o).frozen? ⟨p, 0, none⟩ = false := fun o => (World.frozen?_of_block (heap_alloc_old w o lp)).trans hpz
  have f3 : ∀ o z, ((w.alloc o).setCell ⟨p, 0, none⟩ z).cell? ⟨q, 0, none⟩ = some c := fun o z => (World.cell?_setCell_other _ _ _ _ (by simp)).trans ((World.cell?_of_block (heap_alloc_old w o lq)).trans hq)
  have f4 : ∀ o z, ((w.alloc o).setCell ⟨p, 0, none⟩ z).frozen? ⟨q, 0, none⟩ = false := fun o z => (World.frozen?_setCell _ _ _ _).trans ((World.frozen?_of_block (heap_alloc_old w o lq)).trans hqz)
  go_wp2
  simp [bodyPostS, results, Try.results17]
theorem catch_idle (p q : Nat) (w : World) :
    CallsD Try.prog 17 #[pt p 0, pt q 0] .returning w fun e u' w' => e = .returned (.tuple #[]) ∧ u' = .returning ∧ w' = w := by
  refine callsD_of_wpS Try.func17 rfl fun c₀ cs hu => ?_
  simp only [Try.ntmps17, List.size_toArray, List.length_cons, List.length_nil, Nat.reduceAdd, Nat.reduceSub, Array.replicate_succ,
     Array.replicate_zero, List.push_toArray, List.append_toArray, List.nil_append, List.cons_append]
  apply wpS_seq
  apply wpS_region
  simp [wpOpsS, go_sem, recoverD, hu, Exit.thenS]
  refine wpS_of_wp ?_
  go_wp2
  cases c₀
  simp_all [bodyPostS, results, Try.results17]
/-- what a script's compiling hands back -/
def ScriptPost (w : World) (o : Option (List Value)) (e : Ending) (w' : World) : Prop := match o with
  | some code => ∃ v, e = .returned (.tuple #[v, .int .i64 0]) ∧ w'.ownsRow w.heap.size 43 4 v (cnt code) code ∧ Kp (fun _ => False) w w'
  | none => e = .returned (.tuple #[.slice none 0 0, .int .i64 2100]) ∧ Kp (fun _ => False) w w'
abbrev W5 (w : World) (k : Int) (t : ByteArray) (x : Nat) (S : Value) (a : Int) : World :=
  ((((w.alloc (.cells #[.int .i64 k, .string t, .float .f64 x, S, .int .i64 a] 25)).alloc (.cells #[.slice none 0 0] 29)).alloc (.cells #[.int .i64 0] 30)).alloc (.map #[] 0)).alloc (.cells #[.slice none 0 0, .map (some (w.heap.size + 1 + 1 + 1))] 51)
structure Res (w w' : World) : Prop where
  p : w'.cell? ⟨w.heap.size + 1, 0, none⟩ = some (.slice none 0 0)
  q : w'.cell? ⟨w.heap.size + 1 + 1, 0, none⟩ = some (.int .i64 0)
  pz : w'.frozen? ⟨w.heap.size + 1, 0, none⟩ = false
  qz : w'.frozen? ⟨w.heap.size + 1 + 1, 0, none⟩ = false
set_option maxRecDepth 100000 in
set_option maxHeartbeats 800000 in
theorem script_walk (T S1 : World → Prop) (S2 : World → Prop) (k : Int) (t : ByteArray) (x : Nat) (S : Value) (a : Int) (w : World) (Q : Ending → World → Prop)
    (hblk : Does 18 #[pt (w.heap.size + 1 + 1 + 1 + 1) 0, pt w.heap.size 0] (W5 w k t x S a) S1 T)
    (hput : ∀ w1, S1 w1 → Does 19 #[pt (w.heap.size + 1 + 1 + 1 + 1) 0, .agg #[.int .i64 0, .int .i64 0, .float .f64 0, .string ⟨#[]⟩]] w1 S2 T)
    (hS2 : ∀ w2, S2 w2 → Res w w2 ∧ ∃ ao n c, w2.cell? ⟨w.heap.size + 1 + 1 + 1 + 1, 0, none⟩ = some (.slice ao n c) ∧ Q (.returned (.tuple #[.slice ao n c, .int .i64 0])) ((w2.setCell ⟨w.heap.size + 1, 0, none⟩ (.slice ao n c)).setCell ⟨w.heap.size + 1 + 1, 0, none⟩ (.int .i64 0)))
    (hT : ∀ w', T w' → Res w w' ∧ Q (.returned (.tuple #[.slice none 0 0, .int .i64 2100])) (((w'.setCell ⟨w.heap.size + 1, 0, none⟩ (.slice none 0 0)).setCell ⟨w.heap.size + 1 + 1, 0, none⟩ (.int .i64 2100)).alloc (.cells #[] 46))) :
    Calls Try.prog 9 #[.agg #[.int .i64 k, .string t, .float .f64 x, S, .int .i64 a]] w Q := by
  have hmf : ∀ (fn : Fn) (first cap : Array Value) (w : World), (Instr.makeFunc fn first cap).run Try.prog w = .ok (.func fn first cap) w := fun _ _ _ _ => rfl
  have hmm := @run_makeMap Try.prog
  go_enter_defers Try.func9, Try.ntmps9
  go_wp2_with (first | (go_at_call 18; refine Calls.mono hblk ?_; rintro e w1 (⟨rfl, h1⟩ | ⟨rfl, h1⟩)) | (go_at_call 19; refine Calls.mono (hput _ h1) ?_; rintro e w2 (⟨rfl, h2⟩ | ⟨rfl, h2⟩); obtain ⟨⟨hp, hq, hpz, hqz⟩, ao, n, c, hc, hQ⟩ := hS2 _ h2))
  · refine leaves_cons (f := 17) (args := #[pt (w.heap.size + 1) 0, pt (w.heap.size + 1 + 1) 0]) (by simp) (by simp [go_sem]) ?_
    refine (catch_idle _ _ _).mono ?_
    rintro e u' w'' ⟨rfl, rfl, rfl⟩
    have e0 : (w2.setCell ⟨w.heap.size + 1, 0, none⟩ (.slice ao n c)).cell? ⟨w.heap.size + 1 + 1, 0, none⟩ = some (.int .i64 0) := (World.cell?_setCell_other _ _ _ _ (by simp)).trans hq
    have e1 := World.cell?_setCell_same w2 _ (.slice ao n c) hp
    have e2 := World.cell?_setCell_same _ _ (.int .i64 0) e0
    simp [Leaves, settle, results, Try.results9, go_sem, e1, e2]
    exact hQ
  · obtain ⟨⟨hp, hq, hpz, hqz⟩, hQ⟩ := hT _ h2
    refine leaves_cons (f := 17) (args := #[pt (w.heap.size + 1) 0, pt (w.heap.size + 1 + 1) 0]) (by simp) (by simp [go_sem]) ?_
    refine (catch_thrown _ _ _ _ _ hp hq hpz hqz (by omega)).mono ?_
    rintro e u' w'' ⟨rfl, rfl, rfl⟩
    have l1 := World.block_lt_of_cell? _ _ hp
    have l2 := World.block_lt_of_cell? _ _ hq
    have e0 : (w2.setCell ⟨w.heap.size + 1, 0, none⟩ (.slice none 0 0)).cell? ⟨w.heap.size + 1 + 1, 0, none⟩ = some (.int .i64 0) := (World.cell?_setCell_other _ _ _ _ (by simp)).trans hq
    have e1 := World.cell?_setCell_same w2 _ (.slice none 0 0) hp
    have e2 := World.cell?_setCell_same _ _ (.int .i64 2100) e0
    have e3 : ((w2.setCell ⟨w.heap.size + 1, 0, none⟩ (.slice none 0 0)).setCell ⟨w.heap.size + 1 + 1, 0, none⟩ (.int .i64 2100)).cell? ⟨w.heap.size + 1, 0, none⟩ = some (.slice none 0 0) := (World.cell?_setCell_other _ _ _ _ (by simp)).trans e1
    have e4 := (World.cell?_of_block (heap_alloc_old ((w2.setCell ⟨w.heap.size + 1, 0, none⟩ (.slice none 0 0)).setCell ⟨w.heap.size + 1 + 1, 0, none⟩ (.int .i64 2100)) (.cells #[] 46) (by simpa [World.setCell] using l1))).trans e3
    have e5 := (World.cell?_of_block (heap_alloc_old ((w2.setCell ⟨w.heap.size + 1, 0, none⟩ (.slice none 0 0)).setCell ⟨w.heap.size + 1 + 1, 0, none⟩ (.int .i64 2100)) (.cells #[] 46) (by simpa [World.setCell] using l2))).trans e2
    simp [Leaves, settle, results, Try.results9, go_sem, e4, e5]
    exact hQ
  · obtain ⟨⟨hp, hq, hpz, hqz⟩, hQ⟩ := hT _ h1
    refine leaves_cons (f := 17) (args := #[pt (w.heap.size + 1) 0, pt (w.heap.size + 1 + 1) 0]) (by simp) (by simp [go_sem]) ?_
    refine (catch_thrown _ _ _ _ _ hp hq hpz hqz (by omega)).mono ?_
    rintro e u' w'' ⟨rfl, rfl, rfl⟩
    have l1 := World.block_lt_of_cell? _ _ hp
    have l2 := World.block_lt_of_cell? _ _ hq
    have e0 : (w1.setCell ⟨w.heap.size + 1, 0, none⟩ (.slice none 0 0)).cell? ⟨w.heap.size + 1 + 1, 0, none⟩ = some (.int .i64 0) := (World.cell?_setCell_other _ _ _ _ (by simp)).trans hq
    have e1 := World.cell?_setCell_same w1 _ (.slice none 0 0) hp
    have e2 := World.cell?_setCell_same _ _ (.int .i64 2100) e0
    have e3 : ((w1.setCell ⟨w.heap.size + 1, 0, none⟩ (.slice none 0 0)).setCell ⟨w.heap.size + 1 + 1, 0, none⟩ (.int .i64 2100)).cell? ⟨w.heap.size + 1, 0, none⟩ = some (.slice none 0 0) := (World.cell?_setCell_other _ _ _ _ (by simp)).trans e1
    have e4 := (World.cell?_of_block (heap_alloc_old ((w1.setCell ⟨w.heap.size + 1, 0, none⟩ (.slice none 0 0)).setCell ⟨w.heap.size + 1 + 1, 0, none⟩ (.int .i64 2100)) (.cells #[] 46) (by simpa [World.setCell] using l1))).trans e3
    have e5 := (World.cell?_of_block (heap_alloc_old ((w1.setCell ⟨w.heap.size + 1, 0, none⟩ (.slice none 0 0)).setCell ⟨w.heap.size + 1 + 1, 0, none⟩ (.int .i64 2100)) (.cells #[] 46) (by simpa [World.setCell] using l2))).trans e2
    simp [Leaves, settle, results, Try.results9, go_sem, e4, e5]
    exact hQ
end Go.Proofs.Ytfkgfibmhhlemaa
namespace Go.Proofs.Ytfkgfibmhhlemaa
open Go.RowKit Go.Maps Go.WideMaps
theorem own_heap {w w' : World} {base base' e size n : Nat} {v : Value} {xs : List Value} (h : w.ownsRow base e size v n xs) (hb : base' ≤ base) (hk : ∀ k, v.ownBlock = some k → w'.heap[k]? = w.heap[k]?) : w'.ownsRow base' e size v n xs := by
  refine ⟨h.1, ?_⟩
  rcases h.2 with h2 | ⟨g, cap, cur, rfl, hbg, hg, rest⟩
  · exact .inl h2
  · exact .inr ⟨g, cap, cur, rfl, Nat.le_trans hb hbg, (hk g rfl).trans hg, rest⟩
theorem w5_heap (w : World) (k : Int) (t : ByteArray) (x : Nat) (S : Value) (a : Int) : (W5 w k t x S a).heap.size = w.heap.size + 5 := by simp
theorem w5_old (w : World) (k : Int) (t : ByteArray) (x : Nat) (S : Value) (a : Int) {j : Nat} (hj : j < w.heap.size) : (W5 w k t x S a).heap[j]? = w.heap[j]? := by
  simp only [W5]
  rw [heap_alloc_old _ _ (by simp <;> omega), heap_alloc_old _ _ (by simp <;> omega), heap_alloc_old _ _ (by simp <;> omega), heap_alloc_old _ _ (by simp <;> omega), heap_alloc_old _ _ hj]
theorem w5_0 (w : World) (k : Int) (t : ByteArray) (x : Nat) (S : Value) (a : Int) : (W5 w k t x S a).heap[w.heap.size]? = some (.cells #[.int .i64 k, .string t, .float .f64 x, S, .int .i64 a] 25) := by
  simp only [W5]
  rw [heap_alloc_old _ _ (by simp <;> omega), heap_alloc_old _ _ (by simp <;> omega), heap_alloc_old _ _ (by simp <;> omega), heap_alloc_old _ _ (by simp), (heap_alloc_new w _)]
theorem w5_1 (w : World) (k : Int) (t : ByteArray) (x : Nat) (S : Value) (a : Int) : (W5 w k t x S a).heap[w.heap.size + 1]? = some (.cells #[.slice none 0 0] 29) := by
  simp only [W5]
  rw [heap_alloc_old _ _ (by simp <;> omega), heap_alloc_old _ _ (by simp <;> omega), heap_alloc_old _ _ (by simp)]
  have := heap_alloc_new (w.alloc (.cells #[.int .i64 k, .string t, .float .f64 x, S, .int .i64 a] 25)) (.cells #[.slice none 0 0] 29)
  simpa using this
theorem w5_2 (w : World) (k : Int) (t : ByteArray) (x : Nat) (S : Value) (a : Int) : (W5 w k t x S a).heap[w.heap.size + 1 + 1]? = some (.cells #[.int .i64 0] 30) := by
  simp only [W5]
  rw [heap_alloc_old _ _ (by simp <;> omega), heap_alloc_old _ _ (by simp)]
  have := heap_alloc_new ((w.alloc (.cells #[.int .i64 k, .string t, .float .f64 x, S, .int .i64 a] 25)).alloc (.cells #[.slice none 0 0] 29)) (.cells #[.int .i64 0] 30)
  simpa using this
theorem w5_4 (w : World) (k : Int) (t : ByteArray) (x : Nat) (S : Value) (a : Int) : (W5 w k t x S a).heap[w.heap.size + 1 + 1 + 1 + 1]? = some (.cells #[.slice none 0 0, .map (some (w.heap.size + 1 + 1 + 1))] 51) := by
  simp only [W5]
  have := heap_alloc_new ((((w.alloc (.cells #[.int .i64 k, .string t, .float .f64 x, S, .int .i64 a] 25)).alloc (.cells #[.slice none 0 0] 29)).alloc (.cells #[.int .i64 0] 30)).alloc (.map #[] 0)) (.cells #[.slice none 0 0, .map (some (w.heap.size + 1 + 1 + 1))] 51)
  simpa using this
theorem cell_of {w : World} {b : Nat} {cs : Array Value} {ty : TypeId} (h : w.heap[b]? = some (.cells cs ty)) (o : Nat) (v : Value) (hv : cs[o]? = some v) : w.cell? ⟨b, o, none⟩ = some v := by simp [World.cell?, h, hv]
theorem frozen_of {w : World} {b : Nat} {cs : Array Value} {ty : TypeId} (h : w.heap[b]? = some (.cells cs ty)) (o : Nat) : w.frozen? ⟨b, o, none⟩ = false := by simp [World.frozen?, h]
theorem ElemAt.weak {R R' : Nat → Prop} (h : ∀ k, R k → R' k) {w : World} {S : Value} {i : Nat} {c0 c1 c2 c3 c4 : Value} : ElemAt R w S i c0 c1 c2 c3 c4 → ElemAt R' w S i c0 c1 c2 c3 c4
  | ⟨b, o, n, cap, e, hr, h5⟩ => ⟨b, o, n, cap, e, h b hr, h5⟩
mutual
theorem NodeAt.weak {R R' : Nat → Prop} {w : World} (h : ∀ k, R k → R' k) : ∀ {nd : Nd} {V : Value}, NodeAt R w nd V → NodeAt R' w nd V
  | .mk _ _ _ _ _, _, ⟨S, e, hs, hk⟩ => ⟨S, e, hs, KidsAt.weak h hk⟩
theorem KidsAt.weak {R R' : Nat → Prop} {w : World} (h : ∀ k, R k → R' k) : ∀ {ks : List Nd} {S : Value} {i : Nat}, KidsAt R w ks S i → KidsAt R' w ks S i
  | [], _, _, _ => trivial
  | _ :: _, _, _, ⟨⟨c0, c1, c2, c3, c4, he, hn⟩, hr⟩ => ⟨⟨c0, c1, c2, c3, c4, he.weak h, NodeAt.weak h hn⟩, KidsAt.weak h hr⟩
end
theorem script_any (nd : Nd) (R : Nat → Prop) (V : Value) (w : World) (hR : ∀ k, R k → k < w.heap.size) (hn : NodeAt R w nd V) (hs : 2 * nd.wt + 2 ≤ 3518437208883) : Calls Try.prog 9 #[V] w (ScriptPost w (scriptC nd)) := by
  obtain ⟨k, t, x, ks, a, e⟩ := nd.eta
  rw [e] at hn
  obtain ⟨S, rfl, hlen, hkids⟩ := hn
  have hold := fun j hj => w5_old w k t x S a (j := j) hj
  have h0 := w5_0 w k t x S a
  have h1 := w5_1 w k t x S a
  have h2 := w5_2 w k t x S a
  have h4 := w5_4 w k t x S a
  have hsz := w5_heap w k t x S a
  have hC : Cst (fun j => R j ∨ j = w.heap.size) [] (W5 w k t x S a) (w.heap.size + 1) (w.heap.size + 1 + 1 + 1 + 1) (w.heap.size + 1 + 1 + 1) (.slice none 0 0) 0 [] := by
    refine ⟨⟨cell_of h4 0 _ rfl, frozen_of h4 0, World.ownsRow_nil _ _ _ _, by simp [Value.ownBlock]⟩, fun j hj => ?_, by omega, by omega, by omega, by simp [Value.ownBlock], cell_of h4 1 _ rfl, .map [], ?_, rfl, fun s => ⟨isMap_empty, fun _ => rfl, rfl⟩⟩
    · rcases hj with hj | rfl
      · have := hR j hj; omega
      · omega
    · have := (World.ownsMap_made (((w.alloc (.cells #[.int .i64 k, .string t, .float .f64 x, S, .int .i64 a] 25)).alloc (.cells #[.slice none 0 0] 29)).alloc (.cells #[.int .i64 0] 30)) Try.prog 9 RI).alloc (.cells #[.slice none 0 0, .map (some (w.heap.size + 1 + 1 + 1))] 51)
      simpa using this
  have hN : NodeP (fun j => R j ∨ j = w.heap.size) (W5 w k t x S a) w.heap.size 0 k t x S ks a := by
    exact ⟨.inr rfl, cell_of h0 0 _ rfl, cell_of h0 1 _ rfl, cell_of h0 2 _ rfl, cell_of h0 3 _ rfl, cell_of h0 4 _ rfl, hlen, (hkids.kept fun j hj => hold j (hR j hj)).weak fun j hj => .inl hj⟩
  have hB := block_any nd (fun j => R j ∨ j = w.heap.size) [] (W5 w k t x S a) (w.heap.size + 1) (w.heap.size + 1 + 1 + 1 + 1) (w.heap.size + 1 + 1 + 1) (.slice none 0 0) 0 [] w.heap.size 0 k t x S ks a e hC (by simp) hN (by omega)
  have hkp : ∀ w', Kp (May (w.heap.size + 1 + 1 + 1 + 1) (w.heap.size + 1 + 1 + 1) (.slice none 0 0)) (W5 w k t x S a) w' → Res w w' := fun w' hk => by
    have b1 := hk.block (w.heap.size + 1) (by omega) (by simp [May, Value.ownBlock])
    have b2 := hk.block (w.heap.size + 1 + 1) (by omega) (by simp [May, Value.ownBlock])
    exact ⟨cell_of (b1.trans h1) 0 _ rfl, cell_of (b2.trans h2) 0 _ rfl, frozen_of (b1.trans h1) 0, frozen_of (b2.trans h2) 0⟩
  have hkw : ∀ w', Kp (May (w.heap.size + 1 + 1 + 1 + 1) (w.heap.size + 1 + 1 + 1) (.slice none 0 0)) (W5 w k t x S a) w' → Kp (fun _ => False) w w' := fun w' hk => by
    refine ⟨hk.os, hk.tape, hk.output, by have := hk.size; omega, fun j hj _ => (hk.block j (by omega) ?_).trans (hold j hj)⟩
    simp [May, Value.ownBlock]; omega
  refine script_walk _ _ (fun w2 => ∃ new sl' v2, blockC 0 [] nd = some (new, sl') ∧ Steps (fun j => R j ∨ j = w.heap.size) sl' (W5 w k t x S a) (w.heap.size + 1) (w.heap.size + 1 + 1 + 1 + 1) (w.heap.size + 1 + 1 + 1) (.slice none 0 0) 0 [] (new ++ ins 0 0 f0 noText) v2 w2) k t x S a w _ hB (fun w1 ⟨new, sl', v1, hb, hst⟩ => ?_) (fun w2 ⟨new, sl', v2, hb, hst⟩ => ?_) fun w' ⟨hb, hk⟩ => ?_
  · have hg := (blockC_good nd 0 [] _ hb).cnt
    simp only at hg
    exact (put_more hst (by omega) 0 0 _).mono (fun w2 ⟨v2, h2⟩ => ⟨new, sl', v2, hb, h2⟩) fun _ h => h
  · refine ⟨hkp w2 hst.kept, ?_⟩
    obtain ⟨ao, c, hv⟩ := hst.st.em.slice
    subst hv
    refine ⟨ao, _, c, hst.st.em.cell, ?_⟩
    have hsc : scriptC nd = some (new ++ ins 0 0 f0 noText) := by unfold scriptC; rw [hb]; rfl
    rw [hsc]
    have hkk := hkw w2 hst.kept
    have hset : ∀ j v1 v2, j ≠ w.heap.size + 1 → j ≠ w.heap.size + 1 + 1 → ((w2.setCell ⟨w.heap.size + 1, 0, none⟩ v1).setCell ⟨w.heap.size + 1 + 1, 0, none⟩ v2).heap[j]? = w2.heap[j]? := fun j v1 v2 h1 h2 => by simp [World.setCell, Array.getElem?_modify, h1.symm, h2.symm]
    refine ⟨_, rfl, own_heap (by simpa using hst.st.em.own) (Nat.le_succ _) fun j hj => ?_, ⟨hkk.os, hkk.tape, hkk.output, by simpa [World.setCell] using hkk.size, fun j hj hf => (hset j _ _ (by omega) (by omega)).trans (hkk.block j hj hf)⟩⟩
    rcases hst.fresh j hj with h | h
    · simp [Value.ownBlock] at h
    · exact hset j _ _ (by omega) (by omega)
  · refine ⟨hkp w' hk, ?_⟩
    have hsc : scriptC nd = none := by unfold scriptC; rw [hb]; rfl
    rw [hsc]
    have hkk := hkw w' hk
    refine ⟨rfl, hkk.os, hkk.tape, hkk.output, ?_, fun j hj hf => ?_⟩
    · have := hkk.size; simp [World.setCell]; omega
    · have hl := hkk.size
      rw [heap_alloc_old _ _ (by simp [World.setCell]; omega)]
      have : ((w'.setCell ⟨w.heap.size + 1, 0, none⟩ (.slice none 0 0)).setCell ⟨w.heap.size + 1 + 1, 0, none⟩ (.int .i64 2100)).heap[j]? = w'.heap[j]? := by
        have a1 : ¬ w.heap.size + 1 = j := by omega
        have a2 : ¬ w.heap.size + 1 + 1 = j := by omega
        simp [World.setCell, Array.getElem?_modify, a1, a2]
      exact this.trans (hkk.block j hj hf)
end Go.Proofs.Ytfkgfibmhhlemaa

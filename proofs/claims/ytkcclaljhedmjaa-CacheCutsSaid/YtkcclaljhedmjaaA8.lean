/- Maps of whole numbers, told by a function: lookup, store, delete, clear, len, range. No conditions. -/
import Derived.Test.YtkcclaljhedmjaaA0
import Derived.Maps.RangeWalk
namespace Go.Proofs.Ytkcclaljhedmjaa
open Go.RowKit Go.Maps Go.MapKept
open Go.ChangeMaps (setBlock modify_eq_set heap_setBlock_same heap_setBlock_other)
open Go.WideElems (Fit rd rg pl rd_key rd_val rg_of other_key)
/-- entries as a function -/
structure EntOf (es : Array MapEntry) (S : Int → Option Value) : Prop where
  there : ∀ x ∈ es.toList, ∃ n, x.key = .int .i64 n ∧ (Lit.int .i64 n).wf = true ∧ S n = some x.val
  all : ∀ n v, S n = some v → ∃ x ∈ es.toList, x.key = .int .i64 n
/-- block b is a map of m entries -/
def MapAt (w : World) (b : Nat) (S : Int → Option Value) (m : Nat) : Prop := ∃ es clock, w.heap[b]? = some (.map es clock) ∧ Stamped es clock ∧ es.size = m ∧ m ≤ 100000 ∧ EntOf es S
def noneM : Int → Option Value := fun _ => none
def putM (S : Int → Option Value) (k : Int) (v : Value) : Int → Option Value := fun i => if i = k then some v else S i
def delM (S : Int → Option Value) (k : Int) : Int → Option Value := fun i => if i = k then none else S i
theorem MapAt.lt {w : World} {b : Nat} {S : Int → Option Value} {m : Nat} (h : MapAt w b S m) : b < w.heap.size := by
  obtain ⟨es, clock, hb, _⟩ := h
  exact blk_lt hb
theorem MapAt.kp {w w' : World} {b : Nat} {S : Int → Option Value} {m : Nat} {F : Nat → Prop} (h : MapAt w b S m) (hk : Kp F w w') (hn : ¬ F b) : MapAt w' b S m := by
  have hl := h.lt
  obtain ⟨es, clock, hb, r⟩ := h
  exact ⟨es, clock, (hk.block b hl hn).trans hb, r⟩
theorem mapAt_made (w : World) : MapAt (w.alloc (.map #[] 0)) w.heap.size noneM 0 :=
  ⟨#[], 0, heap_alloc_new w _, stamped_empty 0, rfl, by omega, ⟨by simp, by simp [noneM]⟩⟩
section
variable {w : World} {b : Nat} {S : Int → Option Value} {m : Nat} {t e : TypeId}
theorem law3 : Keyed Try.prog 3 := int_keyed Try.underlying3
theorem key3 {k : Int} (hw : (Lit.int .i64 k).wf = true) : keyOf Try.prog 3 (.int .i64 k) = some (.int .i64 k) := keyOf_int_mk Try.underlying3 hw
theorem ent_fit {es : Array MapEntry} {clock : Nat} (hs : Stamped es clock) (hm : es.size ≤ 100000) (he : EntOf es S) : Fit (H := Unit) Try.prog 3 (fun _ => some (.nil, [])) es clock :=
  ⟨Nat.le_trans hm (by unfold maxLen; decide), hs, fun x hx => by
    obtain ⟨n, hn, hw, _⟩ := he.there x hx
    exact ⟨(.int .i64 n, .nil), by simp [rd, hn, key3 hw]⟩⟩
theorem ent_val {es : Array MapEntry} {x : MapEntry} {k : Int} (he : EntOf es S) (hx : x ∈ es.toList) (hk : x.key = .int .i64 k) : S k = some x.val := by
  obtain ⟨n, hn, _, hv⟩ := he.there x hx
  rw [hk] at hn
  cases hn
  exact hv
theorem ent_no {es : Array MapEntry} {k : Int} (he : EntOf es S) (hx : ∀ x ∈ es.toList, x.key ≠ .int .i64 k) : S k = none := by
  cases h : S k with
  | none => rfl
  | some v =>
    obtain ⟨x, hm, hk⟩ := he.all k v h
    exact absurd hk (hx x hm)
theorem MapAt.look (h : MapAt w b S m) (ht : Try.prog.underlying t = some (.map 3 e)) {z : Value} (hz : (zeroValue e).run Try.prog w = .ok z w) {k : Int} (hw : (Lit.int .i64 k).wf = true) (c : Bool) :
    (Instr.lookup t (.map (some b)) (.int .i64 k) c).run Try.prog w = .ok (if c then .tuple #[(S k).getD z, .bool (S k).isSome] else (S k).getD z) w := by
  obtain ⟨es, clock, hb, hs, rfl, hm, he⟩ := h
  rcases fit_look c law3 ht hz hb (ent_fit hs hm he) (key3 hw) with ⟨hrun, hno, _⟩ | ⟨e0, y, hm0, hk0, hrun, _⟩
  · rw [hrun, ent_no he hno]; rfl
  · rw [hrun, ent_val he hm0 hk0]; rfl
theorem MapAt.store (h : MapAt w b S m) (hm : m < 100000) (ht : Try.prog.underlying t = some (.map 3 e)) {k : Int} (hw : (Lit.int .i64 k).wf = true) (v : Value) :
    ∃ w', (Instr.mapUpdate t (.map (some b)) (.int .i64 k) v).run Try.prog w = .ok () w' ∧ MapAt w' b (putM S k v) (if (S k).isSome then m else m + 1) ∧ Kp (fun i => i = b) w w' ∧ w'.heap.size = w.heap.size := by
  obtain ⟨es, clock, hb, hs, rfl, _, he⟩ := h
  have F := ent_fit hs (Nat.le_of_lt hm) he
  have kpb : ∀ o, Kp (fun i => i = b) w (setBlock w b o) := fun o => ⟨rfl, rfl, rfl, by simp [setBlock], fun i _ hi => heap_setBlock_other hb _ hi⟩
  rcases law3.find w (key3 hw) es.toList F.keys with ⟨h1, h2⟩ | ⟨j, e0, h1, h2, h3⟩
  · refine ⟨setBlock w b (.map (es.push ⟨.int .i64 k, v, clock⟩) (clock + 1)), ?_, ⟨_, _, heap_setBlock_same hb _, stamped_push hs h2, ?_, ?_, ?_, ?_⟩, kpb _, by simp [setBlock]⟩
    · simp [Instr.mapUpdate, run_underlying ht, MapKept.run_getObj_map hb, law3.check w false (key3 hw), h1, MapKept.run_setObj_map _ hb, Result.andThen, setBlock]
    · simp [ent_no he h2]
    · split <;> omega
    · intro x hx
      simp only [Array.toList_push, List.mem_append, List.mem_singleton] at hx
      rcases hx with hx | rfl
      · obtain ⟨n, hn, hwn, hv⟩ := he.there x hx
        refine ⟨n, hn, hwn, ?_⟩
        rw [putM, if_neg]
        · exact hv
        · rintro rfl
          exact h2 x hx hn
      · exact ⟨k, rfl, hw, by simp [putM]⟩
    · intro n u hu
      simp only [Array.toList_push, List.mem_append, List.mem_singleton]
      unfold putM at hu
      split at hu
      · rename_i hnk
        subst hnk
        exact ⟨_, .inr rfl, rfl⟩
      · obtain ⟨x, hx, hk⟩ := he.all n u hu
        exact ⟨x, .inl hx, hk⟩
  · have hj : es[j]? = some e0 := by simpa using h2
    have hjl : j < es.toList.length := (List.getElem?_eq_some_iff.1 h2).1
    have hkeyf : ∀ e', es[j]? = some e' → ({ e' with key := .int .i64 k, val := v } : MapEntry).key = e'.key := fun e' he' => by rw [hj] at he'; cases he'; exact h3.symm
    have hlist : (es.modify j (fun e' => { e' with key := .int .i64 k, val := v })).toList = es.toList.set j { e0 with key := .int .i64 k, val := v } := by rw [Array.toList_modify, modify_eq_set _ _ _ _ h2]
    have who : ∀ x ∈ es.toList.set j { e0 with key := .int .i64 k, val := v }, x = { e0 with key := .int .i64 k, val := v } ∨ (x ∈ es.toList ∧ x.key ≠ .int .i64 k) := by
      intro x hx
      obtain ⟨i, hi, ex⟩ := List.getElem_of_mem hx
      rw [List.getElem_set] at ex
      split at ex
      · exact Or.inl ex.symm
      · rename_i hne
        have hi' : i < es.toList.length := by simpa using hi
        refine Or.inr ⟨ex ▸ List.getElem_mem hi', ?_⟩
        rw [← h3]
        exact other_key F h2 (by rw [List.getElem?_eq_getElem hi', ex]) (fun e1 => hne e1.symm)
    refine ⟨setBlock w b (.map (es.modify j (fun e' => { e' with key := .int .i64 k, val := v })) clock), ?_, ⟨_, _, heap_setBlock_same hb _, stamped_modify hs _ _ (fun _ _ => rfl) (fun e' _ he' => hkeyf e' he'), ?_, ?_, ?_, ?_⟩, kpb _, by simp [setBlock]⟩
    · simp [Instr.mapUpdate, run_underlying ht, MapKept.run_getObj_map hb, law3.check w false (key3 hw), h1, hj, h3, law3.stays w (key3 hw), MapKept.run_setObj_map _ hb, Result.andThen, setBlock]
    · simp [ent_val he (List.mem_of_getElem? h2) h3]
    · split <;> omega
    · intro x hx
      rw [hlist] at hx
      rcases who x hx with rfl | ⟨hx', hne⟩
      · exact ⟨k, rfl, hw, by simp [putM]⟩
      · obtain ⟨n, hn, hwn, hv⟩ := he.there x hx'
        refine ⟨n, hn, hwn, ?_⟩
        rw [putM, if_neg]
        · exact hv
        · rintro rfl
          exact hne hn
    · intro n u hu
      rw [hlist]
      unfold putM at hu
      split at hu
      · rename_i hnk
        subst hnk
        exact ⟨{ e0 with key := .int .i64 n, val := v }, List.mem_iff_getElem.2 ⟨j, by simpa using hjl, by simp⟩, rfl⟩
      · rename_i hnk
        obtain ⟨x, hx, hk⟩ := he.all n u hu
        obtain ⟨i, hi, ex⟩ := List.getElem_of_mem hx
        refine ⟨x, List.mem_iff_getElem.2 ⟨i, by simpa using hi, ?_⟩, hk⟩
        rw [List.getElem_set, if_neg]
        · exact ex
        · rintro rfl
          have : x = e0 := by
            rw [List.getElem?_eq_getElem hi, ex] at h2
            exact Option.some.inj h2
          rw [this, h3] at hk
          cases hk
          exact hnk rfl
theorem MapAt.drop (h : MapAt w b S m) (ht : Try.prog.underlying t = some (.map 3 e)) {k : Int} (hw : (Lit.int .i64 k).wf = true) (ty : TypeId) :
    ∃ w', (Builtin.delete_ #[t, 3] ty #[.map (some b), .int .i64 k]).run Try.prog w = .ok (.tuple #[]) w' ∧ MapAt w' b (delM S k) (if (S k).isSome then m - 1 else m) ∧ Kp (fun i => i = b) w w' ∧ w'.heap.size = w.heap.size := by
  obtain ⟨es, clock, hb, hs, rfl, hm, he⟩ := h
  have F := ent_fit hs hm he
  have kpb : ∀ o, Kp (fun i => i = b) w (setBlock w b o) := fun o => ⟨rfl, rfl, rfl, by simp [setBlock], fun i _ hi => heap_setBlock_other hb _ hi⟩
  have entd : ∀ es' : Array MapEntry, (∀ x, x ∈ es'.toList ↔ (x ∈ es.toList ∧ x.key ≠ .int .i64 k)) → EntOf es' (delM S k) := fun es' hwho => by
    refine ⟨fun x hx => ?_, fun n u hu => ?_⟩
    · obtain ⟨hx1, hx2⟩ := (hwho x).1 hx
      obtain ⟨n, hn, hwn, hv⟩ := he.there x hx1
      refine ⟨n, hn, hwn, ?_⟩
      rw [delM, if_neg]
      · exact hv
      · rintro rfl
        exact hx2 hn
    · unfold delM at hu
      split at hu
      · cases hu
      · rename_i hnk
        obtain ⟨x, hx, hk⟩ := he.all n u hu
        refine ⟨x, (hwho x).2 ⟨hx, fun e1 => ?_⟩, hk⟩
        rw [hk] at e1
        cases e1
        exact hnk rfl
  rcases law3.find w (key3 hw) es.toList F.keys with ⟨h1, h2⟩ | ⟨j, e0, h1, h2, h3⟩
  · refine ⟨setBlock w b (.map es clock), ?_, ⟨es, clock, heap_setBlock_same hb _, hs, by simp [ent_no he h2], by split <;> omega, entd es fun x => ⟨fun hx => ⟨hx, h2 x hx⟩, fun hx => hx.1⟩⟩, kpb _, by simp [setBlock]⟩
    simp [Builtin.delete_, run_underlying ht, MapKept.run_getObj_map hb, law3.check w _ (key3 hw), h1, MapKept.run_setObj_map _ hb, Result.andThen, setBlock]
  · have hjl : j < es.toList.length := (List.getElem?_eq_some_iff.1 h2).1
    have hjs : j < es.size := by simpa using hjl
    have hsub : (es.eraseIdxIfInBounds j).toList = es.toList.eraseIdx j := by
      unfold Array.eraseIdxIfInBounds
      rw [dif_pos hjs]
      simp
    refine ⟨setBlock w b (.map (es.eraseIdxIfInBounds j) clock), ?_, ⟨_, clock, heap_setBlock_same hb _, stamped_erase hs j, ?_, by split <;> omega, entd _ fun x => ?_⟩, kpb _, by simp [setBlock]⟩
    · simp [Builtin.delete_, run_underlying ht, MapKept.run_getObj_map hb, law3.check w _ (key3 hw), h1, MapKept.run_setObj_map _ hb, Result.andThen, setBlock]
    · rw [ent_val he (List.mem_of_getElem? h2) h3]
      unfold Array.eraseIdxIfInBounds
      rw [dif_pos hjs]
      simp
    · rw [hsub, List.mem_eraseIdx_iff_getElem?]
      constructor
      · rintro ⟨i, hne, hi⟩
        exact ⟨List.mem_of_getElem? hi, by rw [← h3]; exact other_key F h2 hi hne⟩
      · rintro ⟨hx, hne⟩
        obtain ⟨i, hi⟩ := List.getElem?_of_mem hx
        refine ⟨i, fun e1 => hne ?_, hi⟩
        rw [e1, h2] at hi
        cases hi
        exact h3
theorem MapAt.len (h : MapAt w b S m) (ht : Try.prog.underlying t = some (.map 3 e)) (ty : TypeId) : (Builtin.len_ #[t] ty #[.map (some b)]).run Try.prog w = .ok (.int .i64 m) w := by
  obtain ⟨es, clock, hb, _, rfl, _⟩ := h
  simp [Builtin.len_, run_underlying ht, MapKept.run_getObj_map hb, goInt, Result.andThen]
theorem MapAt.clear (h : MapAt w b S m) (ht : Try.prog.underlying t = some (.map 3 e)) (ty : TypeId) :
    ∃ w', (Builtin.clear_ #[t] ty #[.map (some b)]).run Try.prog w = .ok (.tuple #[]) w' ∧ MapAt w' b noneM 0 ∧ Kp (fun i => i = b) w w' ∧ w'.heap.size = w.heap.size := by
  obtain ⟨es, clock, hb, _, _, _⟩ := h
  have kpb : ∀ o, Kp (fun i => i = b) w (setBlock w b o) := fun o => ⟨rfl, rfl, rfl, by simp [setBlock], fun i _ hi => heap_setBlock_other hb _ hi⟩
  refine ⟨setBlock w b (.map #[] clock), ?_, ⟨#[], clock, heap_setBlock_same hb _, stamped_empty clock, rfl, by omega, by simp, by simp [noneM]⟩, kpb _, by simp [setBlock]⟩
  simp [Builtin.clear_, run_underlying ht, MapKept.run_getObj_map hb, MapKept.run_setObj_map _ hb, Result.andThen, setBlock]
theorem MapAt.few (h : MapAt w b S m) : m ≤ 100000 := by
  obtain ⟨es, clock, hb, _, _, hm, _⟩ := h; exact hm
theorem MapAt.empty (h : MapAt w b S 0) : S = noneM := by
  obtain ⟨es, clock, hb, _, hz, _, he⟩ := h
  funext n
  cases hn : S n with
  | none => rfl
  | some v =>
    obtain ⟨x, hx, _⟩ := he.all n v hn
    have : es = #[] := Array.eq_empty_of_size_eq_zero hz
    subst this
    simp at hx
theorem MapAt.wf (h : MapAt w b S m) {k : Int} {v : Value} (hk : S k = some v) : (Lit.int .i64 k).wf = true := by
  obtain ⟨es, clock, hb, _, hz, _, he⟩ := h
  obtain ⟨x, hx, e1⟩ := he.all k v hk
  obtain ⟨n, hn, hw, _⟩ := he.there x hx
  rw [e1] at hn
  cases hn
  exact hw
end
/-- a map gone through -/
def RangeAt (w : World) (b r : Nat) (S : Int → Option Value) (left : Int → Bool) (cnt : Nat) : Prop :=
  ∃ es clock since seen c0, w.heap[b]? = some (.map es clock) ∧ Stamped es clock ∧ es.size ≤ 100000 ∧ EntOf es S ∧ w.heap[r]? = some (.mapIter (some b) since seen c0) ∧ (∀ x ∈ es.toList, x.born < since) ∧ (leftOf es seen).size = cnt ∧
    (∀ x ∈ es.toList, ∀ n, x.key = .int .i64 n → left n = !seen.contains x.born) ∧ (∀ n, left n = true → (S n).isSome) ∧ since ≤ c0 ∧ since ≤ clock
def allM (S : Int → Option Value) : Int → Bool := fun n => (S n).isSome
section
variable {w : World} {b r : Nat} {S : Int → Option Value} {m cnt : Nat} {t e : TypeId} {left : Int → Bool}
theorem RangeAt.lt (h : RangeAt w b r S left cnt) : b < w.heap.size ∧ r < w.heap.size := by
  obtain ⟨es, clock, since, seen, c0, hb, _, _, _, hr, _⟩ := h
  exact ⟨blk_lt hb, blk_lt hr⟩
theorem RangeAt.ne (h : RangeAt w b r S left cnt) : r ≠ b := by
  obtain ⟨es, clock, since, seen, c0, hb, _, _, _, hr, _⟩ := h
  intro e
  rw [e, hb] at hr
  cases hr
theorem RangeAt.kp {w' : World} {F : Nat → Prop} (h : RangeAt w b r S left cnt) (hk : Kp F w w') (hb : ¬ F b) (hr : ¬ F r) : RangeAt w' b r S left cnt := by
  have hl := h.lt
  obtain ⟨es, clock, since, seen, c0, h1, h2, h3, h4, h5, h6⟩ := h
  exact ⟨es, clock, since, seen, c0, (hk.block b hl.1 hb).trans h1, h2, h3, h4, (hk.block r hl.2 hr).trans h5, h6⟩
theorem MapAt.range (h : MapAt w b S m) (ht : Try.prog.underlying t = some (.map 3 e)) :
    ∃ w', (Instr.range t (.map (some b))).run Try.prog w = .ok (.pointer (some ⟨w.heap.size, 0, none⟩)) w' ∧ RangeAt w' b w.heap.size S (allM S) m ∧ Kp (fun _ => False) w w' ∧ w'.heap.size = w.heap.size + 1 := by
  have hlt := h.lt
  obtain ⟨es, clock, hb, hs, rfl, hm, he⟩ := h
  refine ⟨_, run_range_map w t 3 e b es clock ht hb, ⟨es, clock, clock, #[], clock, (heap_alloc_old w _ hlt).trans hb, hs, hm, he, heap_alloc_new w _, hs.1, by simp [leftOf], ?_, ?_, Nat.le_refl _, Nat.le_refl _⟩, kp_alloc _ w _, by simp⟩
  · intro x hx n hn
    simp [allM, ent_val he hx hn]
  · intro n hn; exact hn
theorem RangeAt.next (h : RangeAt w b r S left cnt) (ty : TypeId) :
    (cnt = 0 ∧ (∀ n, left n = false) ∧ (Instr.next (.pointer (some ⟨r, 0, none⟩)) false ty).run Try.prog w = .ok (.tuple #[.bool false]) w) ∨
    ∃ k v w' cnt', (Lit.int .i64 k).wf = true ∧ left k = true ∧ S k = some v ∧ (Instr.next (.pointer (some ⟨r, 0, none⟩)) false ty).run Try.prog w = .ok (.tuple #[.bool true, .int .i64 k, v]) w' ∧
      RangeAt w' b r S (fun n => left n && n != k) cnt' ∧ cnt' < cnt ∧ Kp (fun i => i = r) w w' ∧ w'.heap.size = w.heap.size ∧ (Instr.entry (.pointer (some ⟨r, 0, none⟩))).run Try.prog w' = .ok (.tuple #[.int .i64 k, v]) w' := by
  have hne := h.ne
  obtain ⟨es, clock, since, seen, c0, hb, hs, hm, he, hr, hold, rfl, hl1, hl2, hsc, hsk⟩ := h
  rcases run_next_at (P := Try.prog) w ty r b since c0 seen es clock hr hb hold hsc with ⟨h0, hrun⟩ | ⟨x, hx, w1, hal, hrun⟩
  · refine Or.inl ⟨h0, fun n => ?_, hrun⟩
    cases hk : left n
    · rfl
    · have h1 := hl2 n hk
      obtain ⟨v, hv⟩ := Option.isSome_iff_exists.1 h1
      obtain ⟨x, hx, hxk⟩ := he.all n v hv
      rw [hl1 x hx n hxk, all_seen es seen h0 x hx] at hk
      cases hk
  · obtain ⟨hem, hes⟩ := mem_left hx
    obtain ⟨k, hk, hw, hv⟩ := he.there x hem
    have hr1 : w1.heap[r]? = some (.mapIter (some b) since seen c0) := by rcases hal with rfl | rfl <;> exact hr
    have hb1 : w1.heap[b]? = some (.map es clock) := by rcases hal with rfl | rfl <;> exact hb
    have hset := heap_set (o' := .mapIter (some b) since (seen.push x.born) clock) hr1
    have hb' : (setBlock w1 r (.mapIter (some b) since (seen.push x.born) clock)).heap[b]? = some (.map es clock) := (hset.2 b (fun e1 => hne e1.symm)).trans hb1
    have hen := run_entry_at (P := Try.prog) _ r b since seen es clock x hset.1 hb' hem hs.2.1
    rw [hk] at hrun hen
    refine Or.inr ⟨k, x.val, _, _, hw, by rw [hl1 x hem k hk, hes]; rfl, hv, hrun, ⟨es, clock, since, seen.push x.born, clock, hb', hs, hm, he, hset.1, hold, rfl, fun y hy n hn => ?_, fun n hn => hl2 n (by simp at hn; exact hn.1), hsk, hsk⟩, left_shrinks es seen x hx, ?_, ?_, hen⟩
    · show (left n && n != k) = _
      rw [hl1 y hy n hn, contains_push]
      have : (n != k) = !(y.born == x.born) := by
        by_cases hyx : y.born = x.born
        · have e1 : y = x := born_inj hs.2.1 hy hem hyx
          subst e1
          rw [hk] at hn
          cases hn
          simp
        · have : n ≠ k := fun e1 => by
            subst e1
            have hp := ((stamped_iff es clock).1 hs).2.2
            have := entry_eq_of_key hp hy hem (hn.trans hk.symm)
            exact hyx (by rw [this])
          rw [bne_iff_ne.2 this, beq_false_of_ne hyx]; rfl
      rw [this]
      cases seen.contains y.born <;> cases (y.born == x.born) <;> rfl
    · rcases hal with rfl | rfl <;> exact ⟨rfl, rfl, rfl, by simp [setBlock], fun i _ hi => hset.2 i hi⟩
    · rcases hal with rfl | rfl <;> simp [setBlock]
end
end Go.Proofs.Ytkcclaljhedmjaa

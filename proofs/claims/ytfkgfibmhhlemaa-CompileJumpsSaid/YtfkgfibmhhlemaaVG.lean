/- From a run of the evaluator to a row. No conditions: a library text of the proof. -/
import Derived.Test.YtfkgfibmhhlemaaVF
import Derived.Handed
import Derived.OpenShut
import Derived.ProofKit
import Derived.LaidMore
import Derived.Lay
namespace Go.VM
/-! the bridge from a run of the evaluator to a row -/
def lookN : List (Nat × Nat) → Nat → Nat
  | [], _ => 0
  | (a, b) :: r, f => cond (Nat.beq f a) b (lookN r f)
theorem lookN_mem : ∀ {l : List (Nat × Nat)} {f k : Nat}, lookN l f = k → k ≠ 0 → (f, k) ∈ l
  | [], f, k, h, h0 => absurd h.symm h0
  | (a, b) :: r, f, k, h, h0 => by
    unfold lookN at h
    cases hb : Nat.beq f a with
    | true => rw [hb] at h; have := Nat.eq_of_beq_eq_true hb; subst this; have h : b = k := h; subst h; exact List.mem_cons_self ..
    | false => rw [hb] at h; exact List.mem_cons_of_mem _ (lookN_mem h h0)
theorem rowsOk_of [Hook] {P : Program} {l : List (Nat × Nat)} (hl : ∀ f, extKind f = lookN l f)
    (h : ∀ f k, (f, k) ∈ l → ∀ fd, P.funcs[f]? = some fd → ∀ impl, vmRow k fd = some impl → Extern.findNext fd = none ∧ Extern.find fd = some impl) : RowsOk P := by
  intro f fd hf hb impl hv
  obtain ⟨hp, _⟩ := fnOf_some hf
  have hne : lookN l f ≠ 0 := by
    intro e
    rw [hl f, e] at hv
    cases hv
  rw [hl f] at hv
  exact h f _ (lookN_mem rfl hne) fd hp impl hv
theorem body_of {P : Program} {f : Nat} {fd : Func} (hp : P.funcs[f]? = some fd) (hn : (fd.name == "runtime.NumGoroutine") = false) (hb : fd.body.isSome = true) : ∃ c, bodyOf P f = some c := by
  obtain ⟨c, hc⟩ := Option.isSome_iff_exists.1 hb
  exact ⟨c, by simp [bodyOf, fnOf, hp, hn, hc]⟩
theorem cell_old {w0 w : World} {g : Nat} {v : Value} (h : w0.cell? ⟨g, 0, none⟩ = some v) (hg : g < w0.heap.size) (ho : ∀ k, k < w0.heap.size → w.heap[k]? = w0.heap[k]?) : w.cell? ⟨g, 0, none⟩ = some v := by
  simp only [World.cell?] at h ⊢
  rw [ho g hg]; exact h
theorem relL_bytes {ρ : Rho} : ∀ zs : List Int, RelL ρ (zs.map fun z => AV.int .u8 z) (zs.map fun z => Value.int .u8 z)
  | [] => .nil
  | _z :: r => .cons _ _ _ _ (.int _ _) (relL_bytes r)
/-- a table of bytes that is laid, as the evaluator holds it -/
theorem table_of {P : Program} {W : World} {n : String} {g t e k fuel : Nat} {cs : Array Value} {zs : List Int} {p : List MemPlace} (hg : P.globalNamed n = some g) (hv : W.var? P n = some cs) (ht : P.underlying t = some (.array k e)) (he : P.underlying e = some (.int .u8)) (hc : P.cellsOf e = 1) (hct : P.cellsOf t = k) (hz : zs.length = k)
    (hd : DataW.trod (fun _ => ()) P W 0 (fun _ => true) false fuel t cs.toList = some (.agg (zs.map fun z => .lit (.int .u8 z)), p)) :
    ∀ N ρ, ObjRel N ρ ⟨g, 0, k⟩ W.heap[g]? (.fixed 0 (zs.map fun z => AV.int .u8 z)) := by
  obtain ⟨xs, m, _, ex, hl, hxl, hel⟩ := DataW.trod_array ht hd
  have e3 : (xs.map (·.1)) = zs.map fun n => .lit (.int .u8 n) := (DataW.agg.inj (Prod.mk.inj ex).1).symm
  have hcs : cs.toList = zs.map fun z => Value.int .u8 z := by
    refine List.ext_getElem? fun r => ?_
    by_cases hr : r < k
    · have hE := hel r hr
      rw [hc, Nat.mul_one, List.getElem?_eq_getElem (by omega)] at hE
      obtain ⟨z, e1, e2, _⟩ := DataW.trod_int he hE
      have e4 : (xs.map (·.1))[r]? = (zs.map fun n => (DataW.lit (.int .u8 n) : DataW Unit))[r]? := by rw [e3]
      rw [List.getElem?_map, List.getElem?_map, List.getElem?_eq_getElem (by omega : r < xs.length), e2] at e4
      have h0 : ((cs.toList.drop r).take 1)[0]? = some (.int .u8 z) := by rw [e1]; rfl
      have h1 : cs.toList[r]? = some (.int .u8 z) := by simpa using h0
      rw [h1, List.getElem?_map]
      cases hzr : zs[r]? with
      | none => rw [hzr] at e4; cases e4
      | some y =>
        rw [hzr] at e4
        have : z = y := by simpa using e4
        rw [this]; rfl
    · rw [List.getElem?_eq_none (by omega), List.getElem?_eq_none (by rw [List.length_map]; omega)]
  have hheap : ∃ e q, W.heap[g]? = some (.cells cs e q) := by
    simp only [World.var?, hg, Option.bind_some] at hv
    split at hv
    · rename_i h; cases hv; exact ⟨_, _, h⟩
    · cases hv
  obtain ⟨e', q, hh⟩ := hheap
  intro N ρ
  refine ⟨cs, q, ⟨e', hh⟩, ?_, ?_, ?_⟩
  · show cs.size = k; rw [← Array.length_toList, hcs, List.length_map, hz]
  · show 0 + _ ≤ _; rw [List.length_map, ← Array.length_toList, hcs, List.length_map]; omega
  · show RelL ρ _ ((cs.toList.drop 0).take _)
    rw [hcs]
    have : ((zs.map fun z => Value.int .u8 z).drop 0).take (zs.map fun z => AV.int .u8 z).length = zs.map fun z => Value.int .u8 z := by rw [List.drop_zero]; exact List.take_of_length_le (by simp)
    rw [this]; exact relL_bytes zs
theorem keptBut_of_grew {w w' : World} {may : MemPlace → Prop} (h : Grew w w') : w.keptBut w' may := by
  refine ⟨h.os, h.out, fun i hi => ?_⟩
  rw [h.old i hi]
  split <;> simp_all
section
variable {H : Type} {enc : TypeId × Value → H}
/-- a law that answers true, whatever its arguments, and only makes new memory -/
theorem post_of_grew {P : Program} {f : Func} {s : ChangeSpec} {apart fresh handsOn : Bool} {W W' : World} {args : Array Value} {v : Value} {ds gs : List (DataW H)} {before : List MemPlace}
    (hW : DataW.Whole enc P f.params.toList s.vars apart W args.toList ds gs before)
    (hres : ∀ (b : Nat) (sp : Nat → Bool) (hd : Bool), DataW.TrodAll enc P W' b sp hd f.resultTypes.toList (v.resultList f.resultTypes.size) (s.fn H (ds ++ gs)).results [])
    (hargs : ∀ sp : Nat → Bool, DataW.TrodAll enc P W' 0 sp true f.params.toList args.toList (s.fn H (ds ++ gs)).args [])
    (hvars : ∀ sp : Nat → Bool, DataW.TrodVars enc P W' sp s.vars (s.fn H (ds ++ gs)).vars [])
    (hk : Grew W W') : s.post enc P f apart fresh handsOn false W args v W' :=
  ⟨ds, gs, before, [], [], [], hW, hres _ _ _, hargs _, hvars _, keptBut_of_grew hk, fun h => by cases h⟩
theorem handed_of {a : Assume} {C : Checked} {os : Os} {f : FuncId} {fn : Func} {s : ChangeSpec} {conds : List PathCond} {apart fresh handsOn again : Bool} {X : World → Array Value → Prop}
    (hX : ∀ (w w' : World) (args : Array Value), w.heap = w'.heap → X w args → X w' args)
    (own : ownKnob C.prog.godebug = none) (started : os.Started) (noInit : C.prog.inits.idxOf? f = none) (hfn : C.prog.funcs[f]? = some fn)
    (witness : ∃ (w : World) (tape : Tape) (i : Input), w.os = os ∧ (w.forCall tape i).Shaped C.prog ∧ i.vars = [] ∧ Input.okWide C.prog (w.forCall tape i) .any w.heap.size f i ∧
      ((s.pre enc C.prog fn conds apart (w.forCall tape i).memory i.args ∧ X (w.forCall tape i).memory i.args) ∧ sizedMet enc C.prog fn (OpenSpec.ofChange s) apart (w.forCall tape i).memory i.args) ∧ a.holds C.prog (lone (Frame.enter C.prog f i.args .normal) [] (w.forCall tape i)))
    (contract : ∀ (W : World) (base : Nat) (args : Array Value) (ds gs : List (DataW H)) (before : List MemPlace),
      (∀ (j : Nat) t v, fn.params[j]? = some t → args[j]? = some v → Value.okWide C.prog W .any base t v) →
      DataW.Whole enc C.prog fn.params.toList s.vars apart W args.toList ds gs before → X W args → W.ShapedOpen C.prog →
      Calls C.prog f args W fun e W' => ∃ v, e = .returned v ∧ s.post enc C.prog fn apart fresh handsOn again W args v W') :
    ReturnsInHanded a C os f .any (fun w args => (s.pre enc C.prog fn conds apart w args ∧ X w args) ∧ sizedMet enc C.prog fn (OpenSpec.ofChange s) apart w args) (s.post enc C.prog fn apart fresh handsOn again) := by
  refine returnsInHanded_of_calls own started noInit witness ?_
  intro w tape i _ hsh _ hok hpre hholds
  obtain ⟨_, _, _, fn', hfn', _, _, _, _, hval⟩ := hok
  obtain rfl : fn' = fn := Option.some.inj (hfn'.symm.trans hfn)
  obtain ⟨⟨⟨ds, gs, before, hw, hc⟩, hx⟩, _⟩ := hpre
  refine (contract (w.forCall tape i) w.heap.size i.args ds gs before hval (DataW.Whole.of_heap (w' := w.forCall tape i) (by rfl) hw) (hX _ _ _ (by rfl) hx) hsh).mono fun e W' ⟨v, he, hp⟩ => ?_
  subst he
  exact ChangeSpec.post_blind hp
end
end Go.VM

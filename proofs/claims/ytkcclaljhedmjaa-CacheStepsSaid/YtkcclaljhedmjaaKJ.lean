/- CacheSteps: the statement. No conditions. -/
import Derived.Test.YtkcclaljhedmjaaKH
import Derived.Test.YtkcclaljhedmjaaKI
import Derived.HandedShaped
import Derived.JoinedOf
import Derived.ChangeArms
import Derived.ProofKit
import Derived.OpenShut
import Derived.WideKeyArgs
namespace Go.Proofs.Ytkcclaljhedmjaa
section
open Go.ChangeShapes Go.WideShapes Go.ChangeAt Go.RowKit
section
variable {H : Type} {enc : TypeId × Value → H} {w : World} {sp : Nat → Bool} {hd : Bool}
theorem size59 : Try.prog.cellsOf 59 = 3 := by kernel_rfl
theorem size3' : Try.prog.cellsOf 3 = 1 := by kernel_rfl
set_option maxRecDepth 100000 in
/-- a step's reading -/
theorem open_step8 (n : Nat) (cs : List Value) (x : DataW H × List MemPlace) (h : DataW.trod enc Try.prog w 0 sp hd n 59 cs = some x) :
    ∃ k t u : Int, cs = [.int .i64 k, .int .i64 t, .int .i64 u] ∧ (Lit.int .i64 k).wf = true ∧ (Lit.int .i64 t).wf = true ∧ (Lit.int .i64 u).wf = true := by
  obtain ⟨xs, m, rfl, rfl, hcl, hxl, hf⟩ := DataW.trod_struct Try.underlying59 h
  rw [size59] at hcl
  match cs, hcl with
  | [c0, c1, c2], _ =>
  match xs, hxl with
  | [x0, x1, x2], _ =>
  have f0 : DataW.trod enc Try.prog w 0 sp hd m 3 (([c0, c1, c2].drop 0).take (Try.prog.cellsOf 3)) = some x0 := hf 0 _ rfl
  rw [size3'] at f0
  have f0 : DataW.trod enc Try.prog w 0 sp hd m 3 [c0] = some x0 := f0
  have f1 : DataW.trod enc Try.prog w 0 sp hd m 3 (([c0, c1, c2].drop 1).take (Try.prog.cellsOf 3)) = some x1 := hf 1 _ rfl
  rw [size3'] at f1
  have f1 : DataW.trod enc Try.prog w 0 sp hd m 3 [c1] = some x1 := f1
  have f2 : DataW.trod enc Try.prog w 0 sp hd m 3 (([c0, c1, c2].drop 2).take (Try.prog.cellsOf 3)) = some x2 := hf 2 _ rfl
  rw [size3'] at f2
  have f2 : DataW.trod enc Try.prog w 0 sp hd m 3 [c2] = some x2 := f2
  obtain ⟨k, e0, rfl, wk⟩ := DataW.trod_int Try.underlying3 f0
  obtain ⟨t, e1, rfl, wt⟩ := DataW.trod_int Try.underlying3 f1
  obtain ⟨u, e2, rfl, wu⟩ := DataW.trod_int Try.underlying3 f2
  simp only [List.cons.injEq, and_true] at e0 e1 e2
  subst e0 e1 e2
  exact ⟨k, t, u, rfl, wk, wt, wu⟩
/-- the argument -/
theorem open_steps8 (n : Nat) (cs : List Value) (x : DataW H × List MemPlace) (h : DataW.trod enc Try.prog w 0 sp hd n 48 cs = some x) : ∃ a len cap, cs = [.slice a len cap] ∧ Steps8 w a len cap := by
  rcases DataW.trod_slice Try.underlying48 h with ⟨e3, rfl⟩ | ⟨ad, len, cap, els, rest, m', rfl, e3, rfl, hlc, hl, hc, hel, hat, _, _⟩
  · exact ⟨none, 0, 0, e3, by omega, fun i hi => by omega⟩
  · refine ⟨some ad, len, cap, e3, by omega, fun i hi => ?_⟩
    rw [size59] at hat
    have hs0 : ad.spot = none := by
      have h1 := hat 0 (by omega)
      rw [List.getElem?_eq_getElem (by omega), Option.bind_eq_some_iff] at h1
      obtain ⟨ds, hd1, ht⟩ := h1
      obtain ⟨k, t, u, rfl, _⟩ := open_step8 m' _ _ ht
      have hs := World.cell?_spot ((World.cells?_some hd1).2.2 0 (by decide))
      simpa [Addr.add] using hs
    have h1 := hat i hi
    rw [List.getElem?_eq_getElem (by omega), Option.bind_eq_some_iff] at h1
    obtain ⟨ds, hd1, ht⟩ := h1
    have hblk := World.cells?_block hd1 (by decide)
    obtain ⟨_, hlen, hcell⟩ := World.cells?_some hd1
    obtain ⟨k, t, u, rfl, wk, wt, wu⟩ := open_step8 m' _ _ ht
    obtain ⟨b, o, s⟩ := ad
    obtain rfl : s = none := hs0
    have ha : ∀ j, j < 3 → ((⟨b, o, none⟩ : Addr).add (i * 3)).add j = ⟨b, o + i * 3 + j, none⟩ := fun j _ => by
      unfold Addr.add
      split <;> split <;> simp_all <;> omega
    have hblk : b < w.heap.size := by
      unfold Addr.add at hblk
      split at hblk <;> exact hblk
    refine ⟨b, o, rfl, hblk, k, t, u, wk, wt, wu, ?_, ?_, ?_⟩
    · have := hcell 0 (by decide); rw [ha 0 (by decide)] at this; exact this
    · have := hcell 1 (by decide); rw [ha 1 (by decide)] at this; exact this
    · have := hcell 2 (by decide); rw [ha 2 (by decide)] at this; exact this
end
theorem own8 : ownKnob Try.prog.godebug = none := by kernel_rfl
theorem kp_same8 {W W' : World} (hg : Kp (fun _ => False) W W') {p : MemPlace} (hp : p.block < W.heap.size) : W.sameAt W' p := by
  cases p with
  | cell b o => exact World.cell?_of_block (w := W) (hg.block b hp (fun e => e))
  | map b => exact hg.block b hp (fun e => e)
theorem kp_but8 {w w' : World} {may : MemPlace → Prop} (h : Kp (fun _ => False) w w') : w.keptBut w' may := by
  refine ⟨h.os, h.output, fun i hi => ?_⟩
  rw [h.block i hi (fun e => e)]
  split <;> simp_all
set_option maxRecDepth 100000 in
theorem lifted4 (os : Os) (started : os.Started) (H : Type) (enc : TypeId × Value → H) :
    ReturnsInHanded {} Try.checked os 4 .any (Rows.cacheStepsSpec.pre6 enc Try.prog Try.f4 Rows.cacheStepsRow.domain false) (Rows.cacheStepsSpec.post enc Try.prog Try.f4 false true false false) := by
  refine returnsInHanded_of_change_shaped (C := Try.checked) own8 started (by kernel_rfl) Try.func4
    (ChangeSpec.witness6 (enc := enc) (C := Try.checked) false ⟨#[], #[.int .i64 0, .slice none 0 0], []⟩ 8 (by kernel_rfl) (by kernel_rfl) (by kernel_rfl) (by kernel_rfl)) ?_
  intro W base args ds gs before hval0 hW _ _ hsh _
  have hW' := hW
  obtain ⟨p, q, hA0, hV, rfl, _, _⟩ := hW
  have hA : DataW.TrodAll enc Try.prog W 0 (fun _ => true) true Try.f4.params.toList args.toList ds p := hA0
  rw [Try.params4] at hA
  obtain ⟨u0, v0, du, d0, pu, p0, hargs, rfl, rfl, hu, h0⟩ := trodAll_two hA
  obtain rfl : args = #[u0, v0] := by cases args; simp_all
  obtain ⟨x1, rfl, rfl, rfl, wf1⟩ := open_int Try.underlying3 (hval0 0 _ _ (by rw [← Array.getElem?_toList, Try.params4]; rfl) rfl) hu
  obtain ⟨rfl, rfl⟩ := trodVars_none hV
  have hsl : ∃ a l c, v0 = .slice a l c := by
    have : Value.okWide Try.prog W .any base 48 v0 := hval0 1 48 v0 (by rw [← Array.getElem?_toList, Try.params4]; rfl) rfl
    unfold Value.okWide at this
    rw [Try.underlying48] at this
    cases v0 with
    | slice a l c => exact ⟨a, l, c, rfl⟩
    | _ => first | exact this.elim | (exfalso; revert this; simp)
  obtain ⟨a, l, c, rfl⟩ := hsl
  have h0k := h0
  obtain ⟨fuel, hf⟩ := h0
  have hlt : ∀ x ∈ p0, x.block < W.heap.size := fun x hx => by simpa using hW'.lt x (List.mem_append_left _ (List.mem_append_right _ hx))
  obtain ⟨a', l', c', hcs, hst⟩ := open_steps8 fuel _ _ hf
  have hcs : [Value.slice a l c] = [.slice a' l' c'] := hcs
  cases hcs
  refine (law8_any W x1 a l c hst (fun w' _ => awake8_any w')).mono fun e W' ⟨he, hg⟩ => ?_
  subst he
  refine ⟨_, rfl, ⟨_, _, _, [], [] ++ p0, [], hW', trodAll_mk1 (shut_bool Try.underlying4 _), ?_, rfl, kp_but8 hg, fun h => by cases h⟩⟩
  rw [Try.params4]
  exact trodAll_mk2 (shut_int Try.underlying3 wf1) (WideElems.Trod_stays (by kernel_rfl) (by kernel_rfl) (of_decide_eq_true (by kernel_rfl)) h0k (fun x hx => kp_same8 hg (hlt x hx)) (fun x hx => by simpa using hlt x hx))
theorem named4 : Try.pinned.checked.prog.funcNamed Rows.cacheStepsRow.func = some 4 := by kernel_rfl
theorem inst4 : Try.f4.isInstance Try.prog Rows.cacheStepsRow.origin Rows.cacheStepsRow.targs := of_decide_eq_true (by kernel_rfl)
theorem wrap4 : Try.f4.isWrapper Try.prog Rows.cacheStepsRow.wrapper Rows.cacheStepsRow.mainSum := by unfold Func.isWrapper; first | (rw [if_pos (by decide +kernel)]; kernel_rfl) | (rw [if_neg (by decide +kernel)]; exact ⟨rfl, rfl⟩)
/-- the statement -/
theorem csteps_holds : Rows.CacheStepsSaid :=
  OpenClaim.holds_of_wide 4 Try.f4 rfl rfl rfl rfl rfl rfl rfl ⟨rfl, rfl, rfl, rfl, rfl⟩ rfl rfl rfl rfl rfl named4 Try.func4 (by kernel_rfl)
    inst4 wrap4 (fun os started H enc _ => lifted4 os started H enc)
#print axioms csteps_holds
end
end Go.Proofs.Ytkcclaljhedmjaa

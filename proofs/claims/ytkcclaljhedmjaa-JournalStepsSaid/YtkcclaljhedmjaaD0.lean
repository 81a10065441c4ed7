/- JournalSteps: the statement. No conditions. -/
import Derived.Test.YtkcclaljhedmjaaC8
import Derived.Test.YtkcclaljhedmjaaC9
import Derived.HandedShaped
import Derived.JoinedOf
import Derived.ChangeArms
import Derived.ProofKit
import Derived.OpenShut
import Derived.WideKeyArgs
namespace Go.Proofs.Ytkcclaljhedmjaa
open Go.ChangeShapes Go.WideShapes Go.ChangeAt Go.RowKit
section
variable {H : Type} {enc : TypeId × Value → H} {w : World} {sp : Nat → Bool} {hd : Bool}
theorem size37 : Try.prog.cellsOf 37 = 4 := by kernel_rfl
theorem size3 : Try.prog.cellsOf 3 = 1 := by kernel_rfl
set_option maxRecDepth 100000 in
/-- a step's reading -/
theorem open_step (n : Nat) (cs : List Value) (x : DataW H × List MemPlace) (h : DataW.trod enc Try.prog w 0 sp hd n 37 cs = some x) :
    ∃ k t u z : Int, cs = [.int .i64 k, .int .i64 t, .int .i64 u, .int .i64 z] ∧ (Lit.int .i64 k).wf = true ∧ (Lit.int .i64 t).wf = true ∧ (Lit.int .i64 u).wf = true ∧ (Lit.int .i64 z).wf = true := by
  obtain ⟨xs, m, rfl, rfl, hcl, hxl, hf⟩ := DataW.trod_struct Try.underlying37 h
  rw [size37] at hcl
  match cs, hcl with
  | [c0, c1, c2, c3], _ =>
  match xs, hxl with
  | [x0, x1, x2, x3], _ =>
  have f0 : DataW.trod enc Try.prog w 0 sp hd m 3 (([c0, c1, c2, c3].drop 0).take (Try.prog.cellsOf 3)) = some x0 := hf 0 _ rfl
  rw [size3] at f0
  have f0 : DataW.trod enc Try.prog w 0 sp hd m 3 [c0] = some x0 := f0
  have f1 : DataW.trod enc Try.prog w 0 sp hd m 3 (([c0, c1, c2, c3].drop 1).take (Try.prog.cellsOf 3)) = some x1 := hf 1 _ rfl
  rw [size3] at f1
  have f1 : DataW.trod enc Try.prog w 0 sp hd m 3 [c1] = some x1 := f1
  have f2 : DataW.trod enc Try.prog w 0 sp hd m 3 (([c0, c1, c2, c3].drop 2).take (Try.prog.cellsOf 3)) = some x2 := hf 2 _ rfl
  rw [size3] at f2
  have f2 : DataW.trod enc Try.prog w 0 sp hd m 3 [c2] = some x2 := f2
  have f3 : DataW.trod enc Try.prog w 0 sp hd m 3 (([c0, c1, c2, c3].drop 3).take (Try.prog.cellsOf 3)) = some x3 := hf 3 _ rfl
  rw [size3] at f3
  have f3 : DataW.trod enc Try.prog w 0 sp hd m 3 [c3] = some x3 := f3
  obtain ⟨k, e0, rfl, wk⟩ := DataW.trod_int Try.underlying3 f0
  obtain ⟨t, e1, rfl, wt⟩ := DataW.trod_int Try.underlying3 f1
  obtain ⟨u, e2, rfl, wu⟩ := DataW.trod_int Try.underlying3 f2
  obtain ⟨z, e3, rfl, wz⟩ := DataW.trod_int Try.underlying3 f3
  simp only [List.cons.injEq, and_true] at e0 e1 e2 e3
  subst e0 e1 e2 e3
  exact ⟨k, t, u, z, rfl, wk, wt, wu, wz⟩
/-- the argument -/
theorem open_steps (n : Nat) (cs : List Value) (x : DataW H × List MemPlace) (h : DataW.trod enc Try.prog w 0 sp hd n 22 cs = some x) : ∃ a len cap, cs = [.slice a len cap] ∧ StepsAt w a len cap := by
  rcases DataW.trod_slice Try.underlying22 h with ⟨e3, rfl⟩ | ⟨ad, len, cap, els, rest, m', rfl, e3, rfl, hlc, hl, hc, hel, hat, _, _⟩
  · exact ⟨none, 0, 0, e3, by omega, fun i hi => by omega⟩
  · refine ⟨some ad, len, cap, e3, by omega, fun i hi => ?_⟩
    rw [size37] at hat
    have hs0 : ad.spot = none := by
      have h1 := hat 0 (by omega)
      rw [List.getElem?_eq_getElem (by omega), Option.bind_eq_some_iff] at h1
      obtain ⟨ds, hd1, ht⟩ := h1
      obtain ⟨k, t, u, z, rfl, _⟩ := open_step m' _ _ ht
      have hs := World.cell?_spot ((World.cells?_some hd1).2.2 0 (by decide))
      simpa [Addr.add] using hs
    have h1 := hat i hi
    rw [List.getElem?_eq_getElem (by omega), Option.bind_eq_some_iff] at h1
    obtain ⟨ds, hd1, ht⟩ := h1
    have hblk := World.cells?_block hd1 (by decide)
    obtain ⟨_, hlen, hcell⟩ := World.cells?_some hd1
    obtain ⟨k, t, u, z, rfl, wk, wt, wu, wz⟩ := open_step m' _ _ ht
    obtain ⟨b, o, s⟩ := ad
    obtain rfl : s = none := hs0
    have ha : ∀ j, j < 4 → ((⟨b, o, none⟩ : Addr).add (i * 4)).add j = ⟨b, o + i * 4 + j, none⟩ := fun j _ => by
      unfold Addr.add
      split <;> split <;> simp_all <;> omega
    have hblk : b < w.heap.size := by
      unfold Addr.add at hblk
      split at hblk <;> exact hblk
    refine ⟨b, o, rfl, hblk, k, t, u, z, wk, wt, wu, wz, ?_, ?_, ?_, ?_⟩
    · have := hcell 0 (by decide); rw [ha 0 (by decide)] at this; exact this
    · have := hcell 1 (by decide); rw [ha 1 (by decide)] at this; exact this
    · have := hcell 2 (by decide); rw [ha 2 (by decide)] at this; exact this
    · have := hcell 3 (by decide); rw [ha 3 (by decide)] at this; exact this
end
theorem own : ownKnob Try.prog.godebug = none := by kernel_rfl
theorem kp_same {W W' : World} (hg : Kp (fun _ => False) W W') {p : MemPlace} (hp : p.block < W.heap.size) : W.sameAt W' p := by
  cases p with
  | cell b o => exact World.cell?_of_block (w := W) (hg.block b hp (fun e => e))
  | map b => exact hg.block b hp (fun e => e)
theorem kp_but {w w' : World} {may : MemPlace → Prop} (h : Kp (fun _ => False) w w') : w.keptBut w' may := by
  refine ⟨h.os, h.output, fun i hi => ?_⟩
  rw [h.block i hi (fun e => e)]
  split <;> simp_all
set_option maxRecDepth 100000 in
theorem lifted3 (os : Os) (started : os.Started) (H : Type) (enc : TypeId × Value → H) :
    ReturnsInHanded {} Try.checked os 3 .any (Rows.journalStepsSpec.pre6 enc Try.prog Try.f3 Rows.journalStepsRow.domain false) (Rows.journalStepsSpec.post enc Try.prog Try.f3 false true false false) := by
  refine returnsInHanded_of_change_shaped (C := Try.checked) own started (by kernel_rfl) Try.func3
    (ChangeSpec.witness6 (enc := enc) (C := Try.checked) false ⟨#[], #[.slice none 0 0], []⟩ 8 (by kernel_rfl) (by kernel_rfl) (by kernel_rfl) (by kernel_rfl)) ?_
  intro W base args ds gs before hval0 hW _ _ hsh _
  have hW' := hW
  obtain ⟨p, q, hA0, hV, rfl, _, _⟩ := hW
  have hA : DataW.TrodAll enc Try.prog W 0 (fun _ => true) true Try.f3.params.toList args.toList ds p := hA0
  rw [Try.params3] at hA
  obtain ⟨v0, d0, hargs, rfl, h0⟩ := trodAll_one hA
  obtain rfl : args = #[v0] := by cases args; simp_all
  obtain ⟨rfl, rfl⟩ := trodVars_none hV
  have hsl : ∃ a l c, v0 = .slice a l c := by
    have : Value.okWide Try.prog W .any base 22 v0 := hval0 0 22 v0 (by rw [← Array.getElem?_toList, Try.params3]; rfl) rfl
    unfold Value.okWide at this
    rw [Try.underlying22] at this
    cases v0 with
    | slice a l c => exact ⟨a, l, c, rfl⟩
    | _ => first | exact this.elim | (exfalso; revert this; simp)
  obtain ⟨a, l, c, rfl⟩ := hsl
  have h0k := h0
  obtain ⟨fuel, hf⟩ := h0
  have hlt : ∀ x ∈ p, x.block < W.heap.size := fun x hx => by simpa using hW'.lt x (List.mem_append_left _ hx)
  obtain ⟨a', l', c', hcs, hst⟩ := open_steps fuel _ _ hf
  have hcs : [Value.slice a l c] = [.slice a' l' c'] := hcs
  cases hcs
  refine (law_any W a l c hst (fun w' _ => awake7_any w')).mono fun e W' ⟨he, hg⟩ => ?_
  subst he
  refine ⟨_, rfl, ⟨_, _, _, [], p, [], hW', trodAll_mk1 (shut_bool Try.underlying4 _), ?_, rfl, kp_but hg, fun h => by cases h⟩⟩
  rw [Try.params3]
  exact trodAll_mk1 (WideElems.Trod_stays (by kernel_rfl) (by kernel_rfl) (of_decide_eq_true (by kernel_rfl)) h0k (fun x hx => kp_same hg (hlt x hx)) (fun x hx => by simpa using hlt x hx))
theorem named3 : Try.pinned.checked.prog.funcNamed Rows.journalStepsRow.func = some 3 := by kernel_rfl
theorem inst3 : Try.f3.isInstance Try.prog Rows.journalStepsRow.origin Rows.journalStepsRow.targs := of_decide_eq_true (by kernel_rfl)
theorem wrap3 : Try.f3.isWrapper Try.prog Rows.journalStepsRow.wrapper Rows.journalStepsRow.mainSum := by unfold Func.isWrapper; first | (rw [if_pos (by decide +kernel)]; kernel_rfl) | (rw [if_neg (by decide +kernel)]; exact ⟨rfl, rfl⟩)
/-- the statement -/
theorem steps_holds : Rows.JournalStepsSaid :=
  OpenClaim.holds_of_wide 3 Try.f3 rfl rfl rfl rfl rfl rfl rfl ⟨rfl, rfl, rfl, rfl, rfl⟩ rfl rfl rfl rfl rfl named3 Try.func3 (by kernel_rfl)
    inst3 wrap3 (fun os started H enc _ => lifted3 os started H enc)
#print axioms steps_holds
end Go.Proofs.Ytkcclaljhedmjaa

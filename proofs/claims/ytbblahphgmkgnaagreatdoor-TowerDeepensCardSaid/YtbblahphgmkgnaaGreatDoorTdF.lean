/- The closed facts of the row of TowerDeepens, one by one, by the kernel. No conditions. -/
import Derived.Test.YtbblahphgmkgnaaGreatDoorRows
import Derived.Test.YtbblahphgmkgnaaGreatDoorVK
import Derived.JoinedOf
import Derived.SevenTiedAt
import Derived.KernelRfl
namespace Go.Proofs.YtbblahphgmkgnaaGreatDoor
open Go
theorem and_true_of {a b : Bool} (h : a = true) (h' : b = true) : (a && b) = true := by rw [h, h']; rfl
theorem fact0 : (Rows.towerDeepensRow.wf (OpenSpec.ofChange Rows.towerDeepensSpec) : Bool) = true := by kernel_rfl
theorem fact1 : (laidOutB Tryz.prog : Bool) = true := by kernel_rfl
theorem fact2 : (mapsRowed Tryz.prog : Bool) = true := by kernel_rfl
theorem fact3 : (Tryz.f5.params.all (Tryz.prog.readableRec ·) : Bool) = true := by kernel_rfl
theorem fact4 : (namedTie Tryz.prog Rows.towerDeepensRow.named Rows.towerDeepensSpec.vars : Bool) = true := by kernel_rfl
theorem fact5 : ((Rows.towerDeepensRow.stops == []) : Bool) = true := by kernel_rfl
theorem fact6 : ((Tryz.prog.stops == []) : Bool) = true := by kernel_rfl
theorem fact7 : ((Rows.towerDeepensRow.knobs == []) : Bool) = true := by kernel_rfl
theorem fact8 : ((Tryz.prog.stopKnobs == []) : Bool) = true := by kernel_rfl
set_option maxRecDepth 100000 in
theorem fact9 : ((Rows.towerDeepensRow.inPlace == Tryz.prog.inPlace 5) : Bool) = true := by unfold Program.inPlace; rw [Go.VM.closure_eq]; kernel_rfl
set_option maxRecDepth 100000 in
theorem fact10 : ((Rows.towerDeepensRow.unfollowed == Tryz.prog.unfollowed 5) : Bool) = true := by unfold Program.unfollowed; rw [Go.VM.closure_eq]; kernel_rfl
set_option maxRecDepth 100000 in
theorem fact11 : ((Rows.towerDeepensRow.recurses == Tryz.prog.recurses 5) : Bool) = true := by unfold Program.recurses Program.unfollowed; rw [Go.VM.closure_eq]; kernel_rfl
set_option maxRecDepth 100000 in
theorem fact12 : ((Rows.towerDeepensRow.named == Tryz.prog.varsNamed 5) : Bool) = true := by unfold Program.varsNamed; rw [Go.VM.closure_eq]; kernel_rfl
theorem fact13 : ((Rows.towerDeepensRow.maps == (Tryz.f5.params.toList ++ Rows.towerDeepensSpec.plain.varTypes Tryz.prog).any (Tryz.prog.mapsRec ·)) : Bool) = true := by kernel_rfl
theorem fact14 : ((Rows.towerDeepensRow.ifaces == (Tryz.f5.params.toList ++ Rows.towerDeepensSpec.plain.varTypes Tryz.prog).any (Tryz.prog.ifacesRec ·)) : Bool) = true := by kernel_rfl
theorem fact15 : ((Rows.towerDeepensRow.mapsOut == Tryz.prog.mapsAmong Tryz.f5.resultTypes.toList) : Bool) = true := by kernel_rfl
theorem fact16 : ((Rows.towerDeepensRow.loops == (Tryz.f5.params.toList ++ Rows.towerDeepensSpec.plain.varTypes Tryz.prog).any (Tryz.prog.loopsFrom ·)) : Bool) = true := by kernel_rfl
theorem fact17 : ((Rows.towerDeepensRow.wideKeys == (Tryz.f5.params.toList ++ Rows.towerDeepensSpec.plain.varTypes Tryz.prog ++ Tryz.f5.resultTypes.toList).any (Tryz.prog.wideKeysFrom ·)) : Bool) = true := by kernel_rfl
theorem fact18 : (Rows.towerDeepensSpec.vars.all (Tryz.prog.varReadable ·) : Bool) = true := by kernel_rfl
theorem fact19 : (Tryz.f5.resultTypes.all (fun t => Tryz.prog.readableRec t && decide (t < Tryz.prog.types.size)) : Bool) = true := by kernel_rfl
theorem fact20 : ((Rows.towerDeepensRow.ifacesOut == Tryz.f5.resultTypes.toList.any (Tryz.prog.ifacesRec ·)) : Bool) = true := by kernel_rfl
theorem fact21 : ((Rows.towerDeepensRow.loopsOut == Tryz.f5.resultTypes.toList.any (Tryz.prog.loopsFrom ·)) : Bool) = true := by kernel_rfl
theorem fact22 : ((Rows.towerDeepensRow.plainKeys == Tryz.prog.plainKeys) : Bool) = true := by kernel_rfl
theorem fact23 : (Rows.towerDeepensRow.shortTexts.isNone : Bool) = true := by kernel_rfl
theorem fact24 : (Tryz.prog.stopsHeard : Bool) = true := by kernel_rfl
theorem fact25 : (Tryz.prog.mayEnter : Bool) = true := by kernel_rfl
theorem fact26 : ((Rows.towerDeepensRow.lifted == Tryz.prog.liftsFinal) : Bool) = true := by kernel_rfl
theorem fact27 : ((Tryz.prog.make == some Rows.towerDeepensRow.make) : Bool) = true := by kernel_rfl
theorem fact29 : ((Rows.towerDeepensRow.pinned == Rows.towerDeepensRow.pinnedBy) : Bool) = true := by kernel_rfl
theorem fact30 : ((Rows.towerDeepensRow.veiled == (Tryz.f5.params.toList ++ Rows.towerDeepensSpec.plain.varTypes Tryz.prog ++ Tryz.f5.resultTypes.toList).any (Tryz.prog.veiledRec ·)) : Bool) = true := by kernel_rfl
theorem fact31 : (Rows.towerDeepensRow.veiledFits Tryz.prog Tryz.f5.params.toList (Tryz.f5.params.toList ++ Rows.towerDeepensSpec.plain.varTypes Tryz.prog ++ Tryz.f5.resultTypes.toList) : Bool) = true := by kernel_rfl
theorem named_is : Tryz.pinned.checked.prog.funcNamed Rows.towerDeepensRow.func = some 5 := by kernel_rfl
theorem inst_is : Tryz.f5.isInstance Tryz.prog Rows.towerDeepensRow.origin Rows.towerDeepensRow.targs := of_decide_eq_true (by kernel_rfl)
theorem wrap_is : Tryz.f5.isWrapper Tryz.prog Rows.towerDeepensRow.wrapper Rows.towerDeepensRow.mainSum := by unfold Func.isWrapper; first | (rw [if_pos (by decide +kernel)]; kernel_rfl) | (rw [if_neg (by decide +kernel)]; exact ⟨rfl, rfl⟩)
theorem wf_is : Rows.towerDeepensRow.wfByText (OpenSpec.ofChange Rows.towerDeepensSpec) = true := by kernel_rfl
theorem main_is : Tryz.prog.mainIs = some ((true, "5ad245a70a0c1c5f367c3b354daf419341d3ba61e1e53001e8800a8b353dfb57").1, (true, "5ad245a70a0c1c5f367c3b354daf419341d3ba61e1e53001e8800a8b353dfb57").2.toList) := by kernel_rfl
theorem looks_is : true = Tryz.prog.looks [] := by kernel_rfl
theorem goes_none {P : Program} (h : P.funcs.any Func.goes = false) (f : FuncId) : P.goes f = false := by
  unfold Program.goes
  rw [h, Bool.and_false, Bool.or_false]
  have h' : ∀ (g : Nat) (fn : Func), P.funcs[g]? = some fn → fn.goes = false := by
    intro g fn hf
    obtain ⟨hlt, rfl⟩ := Array.getElem?_eq_some_iff.1 hf
    have := Array.any_eq_false.1 h g hlt
    simpa using this
  rw [Bool.eq_false_iff]
  intro ha
  simp only [List.any_eq_true, Option.any_eq_true] at ha
  obtain ⟨g, _, fn, h1, h2⟩ := ha
  rw [h' g fn h1] at h2
  cases h2
theorem goesBy_none {P : Program} (h : P.funcs.any Func.goes = false) (c : OpenClaim) : false = c.goesBy P := by
  unfold OpenClaim.goesBy Program.goesAt Program.goesFrom
  have h1 : (P.funcNamed c.func).any P.goes = false := by
    cases P.funcNamed c.func with
    | none => rfl
    | some f => exact goes_none h f
  have h2 : P.inits.toList.any P.goes = false := by
    rw [Bool.eq_false_iff]; intro ha
    obtain ⟨f, _, hf⟩ := List.any_eq_true.1 ha
    rw [goes_none h f] at hf; cases hf
  rw [h1, h2]
  cases c.start <;> rfl
theorem no_goes : Tryz.prog.funcs.any Func.goes = false := by kernel_rfl
theorem goes_is : false = Rows.towerDeepensRow.goesBy Tryz.prog := goesBy_none no_goes _
end Go.Proofs.YtbblahphgmkgnaaGreatDoor

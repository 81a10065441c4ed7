/- The closed facts of the row of TowerLinks, one by one, by the kernel. No conditions. -/
import Derived.Test.YtooelpaaidnhiaaGreatDoorRows
import Derived.Test.YtooelpaaidnhiaaGreatDoorVK
import Derived.JoinedOf
import Derived.SevenTiedAt
import Derived.KernelRfl
namespace Go.Proofs.YtooelpaaidnhiaaGreatDoor
open Go
theorem and_true_of {a b : Bool} (h : a = true) (h' : b = true) : (a && b) = true := by rw [h, h']; rfl
theorem fact0 : (Rows.towerLinksRow.wf (OpenSpec.ofChange Rows.towerLinksSpec) : Bool) = true := by kernel_rfl
theorem fact1 : (laidOutB Tryz.prog : Bool) = true := by kernel_rfl
theorem fact2 : (mapsRowed Tryz.prog : Bool) = true := by kernel_rfl
theorem fact3 : (Tryz.f3.params.all (Tryz.prog.readableRec ·) : Bool) = true := by kernel_rfl
theorem fact4 : (namedTie Tryz.prog Rows.towerLinksRow.named Rows.towerLinksSpec.vars : Bool) = true := by kernel_rfl
theorem fact5 : ((Rows.towerLinksRow.stops == []) : Bool) = true := by kernel_rfl
theorem fact6 : ((Tryz.prog.stops == []) : Bool) = true := by kernel_rfl
theorem fact7 : ((Rows.towerLinksRow.knobs == []) : Bool) = true := by kernel_rfl
theorem fact8 : ((Tryz.prog.stopKnobs == []) : Bool) = true := by kernel_rfl
set_option maxRecDepth 100000 in
theorem fact9 : ((Rows.towerLinksRow.inPlace == Tryz.prog.inPlace 3) : Bool) = true := by unfold Program.inPlace; rw [Go.VM.closure_eq]; kernel_rfl
set_option maxRecDepth 100000 in
theorem fact10 : ((Rows.towerLinksRow.unfollowed == Tryz.prog.unfollowed 3) : Bool) = true := by unfold Program.unfollowed; rw [Go.VM.closure_eq]; kernel_rfl
set_option maxRecDepth 100000 in
theorem fact11 : ((Rows.towerLinksRow.recurses == Tryz.prog.recurses 3) : Bool) = true := by unfold Program.recurses Program.unfollowed; rw [Go.VM.closure_eq]; kernel_rfl
set_option maxRecDepth 100000 in
theorem fact12 : ((Rows.towerLinksRow.named == Tryz.prog.varsNamed 3) : Bool) = true := by unfold Program.varsNamed; rw [Go.VM.closure_eq]; kernel_rfl
theorem fact13 : ((Rows.towerLinksRow.maps == (Tryz.f3.params.toList ++ Rows.towerLinksSpec.plain.varTypes Tryz.prog).any (Tryz.prog.mapsRec ·)) : Bool) = true := by kernel_rfl
theorem fact14 : ((Rows.towerLinksRow.ifaces == (Tryz.f3.params.toList ++ Rows.towerLinksSpec.plain.varTypes Tryz.prog).any (Tryz.prog.ifacesRec ·)) : Bool) = true := by kernel_rfl
theorem fact15 : ((Rows.towerLinksRow.mapsOut == Tryz.prog.mapsAmong Tryz.f3.resultTypes.toList) : Bool) = true := by kernel_rfl
theorem fact16 : ((Rows.towerLinksRow.loops == (Tryz.f3.params.toList ++ Rows.towerLinksSpec.plain.varTypes Tryz.prog).any (Tryz.prog.loopsFrom ·)) : Bool) = true := by kernel_rfl
theorem fact17 : ((Rows.towerLinksRow.wideKeys == (Tryz.f3.params.toList ++ Rows.towerLinksSpec.plain.varTypes Tryz.prog ++ Tryz.f3.resultTypes.toList).any (Tryz.prog.wideKeysFrom ·)) : Bool) = true := by kernel_rfl
theorem fact18 : (Rows.towerLinksSpec.vars.all (Tryz.prog.varReadable ·) : Bool) = true := by kernel_rfl
theorem fact19 : (Tryz.f3.resultTypes.all (fun t => Tryz.prog.readableRec t && decide (t < Tryz.prog.types.size)) : Bool) = true := by kernel_rfl
theorem fact20 : ((Rows.towerLinksRow.ifacesOut == Tryz.f3.resultTypes.toList.any (Tryz.prog.ifacesRec ·)) : Bool) = true := by kernel_rfl
theorem fact21 : ((Rows.towerLinksRow.loopsOut == Tryz.f3.resultTypes.toList.any (Tryz.prog.loopsFrom ·)) : Bool) = true := by kernel_rfl
theorem fact22 : ((Rows.towerLinksRow.plainKeys == Tryz.prog.plainKeys) : Bool) = true := by kernel_rfl
theorem fact23 : (Rows.towerLinksRow.shortTexts.isNone : Bool) = true := by kernel_rfl
theorem fact24 : (Tryz.prog.stopsHeard : Bool) = true := by kernel_rfl
theorem fact25 : (Tryz.prog.mayEnter : Bool) = true := by kernel_rfl
theorem fact26 : ((Rows.towerLinksRow.lifted == Tryz.prog.liftsFinal) : Bool) = true := by kernel_rfl
theorem fact27 : ((Tryz.prog.make == some Rows.towerLinksRow.make) : Bool) = true := by kernel_rfl
theorem fact29 : ((Rows.towerLinksRow.pinned == Rows.towerLinksRow.pinnedBy) : Bool) = true := by kernel_rfl
theorem fact30 : ((Rows.towerLinksRow.veiled == (Tryz.f3.params.toList ++ Rows.towerLinksSpec.plain.varTypes Tryz.prog ++ Tryz.f3.resultTypes.toList).any (Tryz.prog.veiledRec ·)) : Bool) = true := by kernel_rfl
theorem fact31 : (Rows.towerLinksRow.veiledFits Tryz.prog Tryz.f3.params.toList (Tryz.f3.params.toList ++ Rows.towerLinksSpec.plain.varTypes Tryz.prog ++ Tryz.f3.resultTypes.toList) : Bool) = true := by kernel_rfl
theorem named_is : Tryz.pinned.checked.prog.funcNamed Rows.towerLinksRow.func = some 3 := by kernel_rfl
theorem inst_is : Tryz.f3.isInstance Tryz.prog Rows.towerLinksRow.origin Rows.towerLinksRow.targs := of_decide_eq_true (by kernel_rfl)
theorem wrap_is : Tryz.f3.isWrapper Tryz.prog Rows.towerLinksRow.wrapper Rows.towerLinksRow.mainSum := by unfold Func.isWrapper; first | (rw [if_pos (by decide +kernel)]; kernel_rfl) | (rw [if_neg (by decide +kernel)]; exact ⟨rfl, rfl⟩)
theorem wf_is : Rows.towerLinksRow.wfByText (OpenSpec.ofChange Rows.towerLinksSpec) = true := by kernel_rfl
theorem main_is : Tryz.prog.mainIs = some ((true, "bd1e73ec41a18e978c2b862b035304b0af70772a479a0f0f465bb16f15d71c2c").1, (true, "bd1e73ec41a18e978c2b862b035304b0af70772a479a0f0f465bb16f15d71c2c").2.toList) := by kernel_rfl
theorem looks_is : true = Tryz.prog.looks [] := by kernel_rfl
theorem goes_none {P : Program} (h : P.funcs.any Func.goes = false) (f : FuncId) : P.goes f = false := by
  unfold Program.goes
  rw [h, Bool.and_false, Bool.or_false]
  have h' : ∀ (g : Nat) (fn : Func), P.funcs[g]? = some fn → fn.goes = false := by
    intro g fn hf
    obtain ⟨hlt, rfl⟩ := Array.getElem?_eq_some_iff.1 hf
    have := Array.any_eq_false.1 h g hlt
    simpa using this
  rw [Bool.eq_false_iff]
  intro ha
  simp only [List.any_eq_true, Option.any_eq_true] at ha
  obtain ⟨g, _, fn, h1, h2⟩ := ha
  rw [h' g fn h1] at h2
  cases h2
theorem goesBy_none {P : Program} (h : P.funcs.any Func.goes = false) (c : OpenClaim) : false = c.goesBy P := by
  unfold OpenClaim.goesBy Program.goesAt Program.goesFrom
  have h1 : (P.funcNamed c.func).any P.goes = false := by
    cases P.funcNamed c.func with
    | none => rfl
    | some f => exact goes_none h f
  have h2 : P.inits.toList.any P.goes = false := by
    rw [Bool.eq_false_iff]; intro ha
    obtain ⟨f, _, hf⟩ := List.any_eq_true.1 ha
    rw [goes_none h f] at hf; cases hf
  rw [h1, h2]
  cases c.start <;> rfl
theorem no_goes : Tryz.prog.funcs.any Func.goes = false := by kernel_rfl
theorem goes_is : false = Rows.towerLinksRow.goesBy Tryz.prog := goesBy_none no_goes _
end Go.Proofs.YtooelpaaidnhiaaGreatDoor

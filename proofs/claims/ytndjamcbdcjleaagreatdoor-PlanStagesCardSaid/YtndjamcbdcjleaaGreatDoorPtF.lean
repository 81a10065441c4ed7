/- The closed facts of the row of PlanStages, one by one, by the kernel. No conditions. -/
import Derived.Test.YtndjamcbdcjleaaGreatDoorRows
import Derived.JoinedOf
import Derived.SevenTiedAt
import Derived.KernelRfl
namespace Go.Proofs.YtndjamcbdcjleaaGreatDoor
open Go
theorem and_true_of {a b : Bool} (h : a = true) (h' : b = true) : (a && b) = true := by rw [h, h']; rfl
theorem fact0 : (Rows.planStagesRow.wf (OpenSpec.ofChange Rows.planStagesSpec) : Bool) = true := by kernel_rfl
theorem fact1 : (laidOutB Tryz.prog : Bool) = true := by kernel_rfl
theorem fact2 : (mapsRowed Tryz.prog : Bool) = true := by kernel_rfl
theorem fact3 : (Tryz.f5.params.all (Tryz.prog.readableRec ·) : Bool) = true := by kernel_rfl
theorem fact4 : (namedTie Tryz.prog Rows.planStagesRow.named Rows.planStagesSpec.vars : Bool) = true := by kernel_rfl
theorem fact5 : ((Rows.planStagesRow.stops == []) : Bool) = true := by kernel_rfl
theorem fact6 : ((Tryz.prog.stops == []) : Bool) = true := by kernel_rfl
theorem fact7 : ((Rows.planStagesRow.knobs == []) : Bool) = true := by kernel_rfl
theorem fact8 : ((Tryz.prog.stopKnobs == []) : Bool) = true := by kernel_rfl
theorem fact9 : ((Rows.planStagesRow.inPlace == Tryz.prog.inPlace 5) : Bool) = true := by kernel_rfl
theorem fact10 : ((Rows.planStagesRow.unfollowed == Tryz.prog.unfollowed 5) : Bool) = true := by kernel_rfl
theorem fact11 : ((Rows.planStagesRow.recurses == Tryz.prog.recurses 5) : Bool) = true := by kernel_rfl
theorem fact12 : ((Rows.planStagesRow.named == Tryz.prog.varsNamed 5) : Bool) = true := by kernel_rfl
theorem fact13 : ((Rows.planStagesRow.maps == (Tryz.f5.params.toList ++ Rows.planStagesSpec.plain.varTypes Tryz.prog).any (Tryz.prog.mapsRec ·)) : Bool) = true := by kernel_rfl
theorem fact14 : ((Rows.planStagesRow.ifaces == (Tryz.f5.params.toList ++ Rows.planStagesSpec.plain.varTypes Tryz.prog).any (Tryz.prog.ifacesRec ·)) : Bool) = true := by kernel_rfl
theorem fact15 : ((Rows.planStagesRow.mapsOut == Tryz.prog.mapsAmong Tryz.f5.resultTypes.toList) : Bool) = true := by kernel_rfl
theorem fact16 : ((Rows.planStagesRow.loops == (Tryz.f5.params.toList ++ Rows.planStagesSpec.plain.varTypes Tryz.prog).any (Tryz.prog.loopsFrom ·)) : Bool) = true := by kernel_rfl
theorem fact17 : ((Rows.planStagesRow.wideKeys == (Tryz.f5.params.toList ++ Rows.planStagesSpec.plain.varTypes Tryz.prog ++ Tryz.f5.resultTypes.toList).any (Tryz.prog.wideKeysFrom ·)) : Bool) = true := by kernel_rfl
theorem fact18 : (Rows.planStagesSpec.vars.all (Tryz.prog.varReadable ·) : Bool) = true := by kernel_rfl
theorem fact19 : (Tryz.f5.resultTypes.all (fun t => Tryz.prog.readableRec t && decide (t < Tryz.prog.types.size)) : Bool) = true := by kernel_rfl
theorem fact20 : ((Rows.planStagesRow.ifacesOut == Tryz.f5.resultTypes.toList.any (Tryz.prog.ifacesRec ·)) : Bool) = true := by kernel_rfl
theorem fact21 : ((Rows.planStagesRow.loopsOut == Tryz.f5.resultTypes.toList.any (Tryz.prog.loopsFrom ·)) : Bool) = true := by kernel_rfl
theorem fact22 : ((Rows.planStagesRow.plainKeys == Tryz.prog.plainKeys) : Bool) = true := by kernel_rfl
theorem fact23 : (Rows.planStagesRow.shortTexts.isNone : Bool) = true := by kernel_rfl
theorem fact24 : (Tryz.prog.stopsHeard : Bool) = true := by kernel_rfl
theorem fact25 : (Tryz.prog.mayEnter : Bool) = true := by kernel_rfl
theorem fact26 : ((Rows.planStagesRow.lifted == Tryz.prog.liftsFinal) : Bool) = true := by kernel_rfl
theorem fact27 : ((Tryz.prog.make == some Rows.planStagesRow.make) : Bool) = true := by kernel_rfl
theorem fact29 : ((Rows.planStagesRow.pinned == Rows.planStagesRow.pinnedBy) : Bool) = true := by kernel_rfl
theorem fact30 : ((Rows.planStagesRow.veiled == (Tryz.f5.params.toList ++ Rows.planStagesSpec.plain.varTypes Tryz.prog ++ Tryz.f5.resultTypes.toList).any (Tryz.prog.veiledRec ·)) : Bool) = true := by kernel_rfl
theorem fact31 : (Rows.planStagesRow.veiledFits Tryz.prog Tryz.f5.params.toList (Tryz.f5.params.toList ++ Rows.planStagesSpec.plain.varTypes Tryz.prog ++ Tryz.f5.resultTypes.toList) : Bool) = true := by kernel_rfl
theorem named_is : Tryz.pinned.checked.prog.funcNamed Rows.planStagesRow.func = some 5 := by kernel_rfl
theorem inst_is : Tryz.f5.isInstance Tryz.prog Rows.planStagesRow.origin Rows.planStagesRow.targs := of_decide_eq_true (by kernel_rfl)
theorem wrap_is : Tryz.f5.isWrapper Tryz.prog Rows.planStagesRow.wrapper Rows.planStagesRow.mainSum := by unfold Func.isWrapper; first | (rw [if_pos (by decide +kernel)]; kernel_rfl) | (rw [if_neg (by decide +kernel)]; exact ⟨rfl, rfl⟩)
theorem wf_is : Rows.planStagesRow.wfByText (OpenSpec.ofChange Rows.planStagesSpec) = true := by kernel_rfl
theorem main_is : Tryz.prog.mainIs = some ((true, "eb1da12dd74fce891071f644443a80806bab278968abf27f52801a379c50150d").1, (true, "eb1da12dd74fce891071f644443a80806bab278968abf27f52801a379c50150d").2.toList) := by kernel_rfl
theorem looks_is : true = Tryz.prog.looks [] := by kernel_rfl
theorem goes_is : false = Rows.planStagesRow.goesBy Tryz.prog := by kernel_rfl
end Go.Proofs.YtndjamcbdcjleaaGreatDoor

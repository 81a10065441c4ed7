/- The closed facts of the row of PlanFuel, one by one, by the kernel. No conditions. -/
import Derived.Test.YtndjamcbdcjleaaGreatDoorRows
import Derived.JoinedOf
import Derived.SevenTiedAt
import Derived.KernelRfl
namespace Go.Proofs.YtndjamcbdcjleaaGreatDoor
open Go
theorem and_true_of {a b : Bool} (h : a = true) (h' : b = true) : (a && b) = true := by rw [h, h']; rfl
theorem fact0 : (Rows.planFuelRow.wf (OpenSpec.ofChange Rows.planFuelSpec) : Bool) = true := by kernel_rfl
theorem fact1 : (laidOutB Tryz.prog : Bool) = true := by kernel_rfl
theorem fact2 : (mapsRowed Tryz.prog : Bool) = true := by kernel_rfl
theorem fact3 : (Tryz.f4.params.all (Tryz.prog.readableRec ·) : Bool) = true := by kernel_rfl
theorem fact4 : (namedTie Tryz.prog Rows.planFuelRow.named Rows.planFuelSpec.vars : Bool) = true := by kernel_rfl
theorem fact5 : ((Rows.planFuelRow.stops == []) : Bool) = true := by kernel_rfl
theorem fact6 : ((Tryz.prog.stops == []) : Bool) = true := by kernel_rfl
theorem fact7 : ((Rows.planFuelRow.knobs == []) : Bool) = true := by kernel_rfl
theorem fact8 : ((Tryz.prog.stopKnobs == []) : Bool) = true := by kernel_rfl
theorem fact9 : ((Rows.planFuelRow.inPlace == Tryz.prog.inPlace 4) : Bool) = true := by kernel_rfl
theorem fact10 : ((Rows.planFuelRow.unfollowed == Tryz.prog.unfollowed 4) : Bool) = true := by kernel_rfl
theorem fact11 : ((Rows.planFuelRow.recurses == Tryz.prog.recurses 4) : Bool) = true := by kernel_rfl
theorem fact12 : ((Rows.planFuelRow.named == Tryz.prog.varsNamed 4) : Bool) = true := by kernel_rfl
theorem fact13 : ((Rows.planFuelRow.maps == (Tryz.f4.params.toList ++ Rows.planFuelSpec.plain.varTypes Tryz.prog).any (Tryz.prog.mapsRec ·)) : Bool) = true := by kernel_rfl
theorem fact14 : ((Rows.planFuelRow.ifaces == (Tryz.f4.params.toList ++ Rows.planFuelSpec.plain.varTypes Tryz.prog).any (Tryz.prog.ifacesRec ·)) : Bool) = true := by kernel_rfl
theorem fact15 : ((Rows.planFuelRow.mapsOut == Tryz.prog.mapsAmong Tryz.f4.resultTypes.toList) : Bool) = true := by kernel_rfl
theorem fact16 : ((Rows.planFuelRow.loops == (Tryz.f4.params.toList ++ Rows.planFuelSpec.plain.varTypes Tryz.prog).any (Tryz.prog.loopsFrom ·)) : Bool) = true := by kernel_rfl
theorem fact17 : ((Rows.planFuelRow.wideKeys == (Tryz.f4.params.toList ++ Rows.planFuelSpec.plain.varTypes Tryz.prog ++ Tryz.f4.resultTypes.toList).any (Tryz.prog.wideKeysFrom ·)) : Bool) = true := by kernel_rfl
theorem fact18 : (Rows.planFuelSpec.vars.all (Tryz.prog.varReadable ·) : Bool) = true := by kernel_rfl
theorem fact19 : (Tryz.f4.resultTypes.all (fun t => Tryz.prog.readableRec t && decide (t < Tryz.prog.types.size)) : Bool) = true := by kernel_rfl
theorem fact20 : ((Rows.planFuelRow.ifacesOut == Tryz.f4.resultTypes.toList.any (Tryz.prog.ifacesRec ·)) : Bool) = true := by kernel_rfl
theorem fact21 : ((Rows.planFuelRow.loopsOut == Tryz.f4.resultTypes.toList.any (Tryz.prog.loopsFrom ·)) : Bool) = true := by kernel_rfl
theorem fact22 : ((Rows.planFuelRow.plainKeys == Tryz.prog.plainKeys) : Bool) = true := by kernel_rfl
theorem fact23 : (Rows.planFuelRow.shortTexts.isNone : Bool) = true := by kernel_rfl
theorem fact24 : (Tryz.prog.stopsHeard : Bool) = true := by kernel_rfl
theorem fact25 : (Tryz.prog.mayEnter : Bool) = true := by kernel_rfl
theorem fact26 : ((Rows.planFuelRow.lifted == Tryz.prog.liftsFinal) : Bool) = true := by kernel_rfl
theorem fact27 : ((Tryz.prog.make == some Rows.planFuelRow.make) : Bool) = true := by kernel_rfl
theorem fact29 : ((Rows.planFuelRow.pinned == Rows.planFuelRow.pinnedBy) : Bool) = true := by kernel_rfl
theorem fact30 : ((Rows.planFuelRow.veiled == (Tryz.f4.params.toList ++ Rows.planFuelSpec.plain.varTypes Tryz.prog ++ Tryz.f4.resultTypes.toList).any (Tryz.prog.veiledRec ·)) : Bool) = true := by kernel_rfl
theorem fact31 : (Rows.planFuelRow.veiledFits Tryz.prog Tryz.f4.params.toList (Tryz.f4.params.toList ++ Rows.planFuelSpec.plain.varTypes Tryz.prog ++ Tryz.f4.resultTypes.toList) : Bool) = true := by kernel_rfl
theorem named_is : Tryz.pinned.checked.prog.funcNamed Rows.planFuelRow.func = some 4 := by kernel_rfl
theorem inst_is : Tryz.f4.isInstance Tryz.prog Rows.planFuelRow.origin Rows.planFuelRow.targs := of_decide_eq_true (by kernel_rfl)
theorem wrap_is : Tryz.f4.isWrapper Tryz.prog Rows.planFuelRow.wrapper Rows.planFuelRow.mainSum := by unfold Func.isWrapper; first | (rw [if_pos (by decide +kernel)]; kernel_rfl) | (rw [if_neg (by decide +kernel)]; exact ⟨rfl, rfl⟩)
theorem wf_is : Rows.planFuelRow.wfByText (OpenSpec.ofChange Rows.planFuelSpec) = true := by kernel_rfl
theorem main_is : Tryz.prog.mainIs = some ((true, "eb1da12dd74fce891071f644443a80806bab278968abf27f52801a379c50150d").1, (true, "eb1da12dd74fce891071f644443a80806bab278968abf27f52801a379c50150d").2.toList) := by kernel_rfl
theorem looks_is : true = Tryz.prog.looks [] := by kernel_rfl
theorem goes_is : false = Rows.planFuelRow.goesBy Tryz.prog := by kernel_rfl
end Go.Proofs.YtndjamcbdcjleaaGreatDoor

/- The closed facts of the row of ModelModes, one by one, by the kernel. No conditions. -/
import Derived.Test.YtckbhajndplkiaaGreatDoorRows
import Derived.JoinedOf
import Derived.SevenTiedAt
import Derived.KernelRfl
namespace Go.Proofs.YtckbhajndplkiaaGreatDoor
open Go
theorem and_true_of {a b : Bool} (h : a = true) (h' : b = true) : (a && b) = true := by rw [h, h']; rfl
theorem fact0 : (Rows.modelModesRow.wf (OpenSpec.ofChange Rows.modelModesSpec) : Bool) = true := by kernel_rfl
theorem fact1 : (laidOutB Tryz.prog : Bool) = true := by kernel_rfl
theorem fact2 : (mapsRowed Tryz.prog : Bool) = true := by kernel_rfl
theorem fact3 : (Tryz.f6.params.all (Tryz.prog.readableRec ·) : Bool) = true := by kernel_rfl
theorem fact4 : (namedTie Tryz.prog Rows.modelModesRow.named Rows.modelModesSpec.vars : Bool) = true := by kernel_rfl
theorem fact5 : ((Rows.modelModesRow.stops == []) : Bool) = true := by kernel_rfl
theorem fact6 : ((Tryz.prog.stops == []) : Bool) = true := by kernel_rfl
theorem fact7 : ((Rows.modelModesRow.knobs == []) : Bool) = true := by kernel_rfl
theorem fact8 : ((Tryz.prog.stopKnobs == []) : Bool) = true := by kernel_rfl
theorem fact9 : ((Rows.modelModesRow.inPlace == Tryz.prog.inPlace 6) : Bool) = true := by kernel_rfl
theorem fact10 : ((Rows.modelModesRow.unfollowed == Tryz.prog.unfollowed 6) : Bool) = true := by kernel_rfl
theorem fact11 : ((Rows.modelModesRow.recurses == Tryz.prog.recurses 6) : Bool) = true := by kernel_rfl
theorem fact12 : ((Rows.modelModesRow.named == Tryz.prog.varsNamed 6) : Bool) = true := by kernel_rfl
theorem fact13 : ((Rows.modelModesRow.maps == (Tryz.f6.params.toList ++ Rows.modelModesSpec.plain.varTypes Tryz.prog).any (Tryz.prog.mapsRec ·)) : Bool) = true := by kernel_rfl
theorem fact14 : ((Rows.modelModesRow.ifaces == (Tryz.f6.params.toList ++ Rows.modelModesSpec.plain.varTypes Tryz.prog).any (Tryz.prog.ifacesRec ·)) : Bool) = true := by kernel_rfl
theorem fact15 : ((Rows.modelModesRow.mapsOut == Tryz.prog.mapsAmong Tryz.f6.resultTypes.toList) : Bool) = true := by kernel_rfl
theorem fact16 : ((Rows.modelModesRow.loops == (Tryz.f6.params.toList ++ Rows.modelModesSpec.plain.varTypes Tryz.prog).any (Tryz.prog.loopsFrom ·)) : Bool) = true := by kernel_rfl
theorem fact17 : ((Rows.modelModesRow.wideKeys == (Tryz.f6.params.toList ++ Rows.modelModesSpec.plain.varTypes Tryz.prog ++ Tryz.f6.resultTypes.toList).any (Tryz.prog.wideKeysFrom ·)) : Bool) = true := by kernel_rfl
theorem fact18 : (Rows.modelModesSpec.vars.all (Tryz.prog.varReadable ·) : Bool) = true := by kernel_rfl
theorem fact19 : (Tryz.f6.resultTypes.all (fun t => Tryz.prog.readableRec t && decide (t < Tryz.prog.types.size)) : Bool) = true := by kernel_rfl
theorem fact20 : ((Rows.modelModesRow.ifacesOut == Tryz.f6.resultTypes.toList.any (Tryz.prog.ifacesRec ·)) : Bool) = true := by kernel_rfl
theorem fact21 : ((Rows.modelModesRow.loopsOut == Tryz.f6.resultTypes.toList.any (Tryz.prog.loopsFrom ·)) : Bool) = true := by kernel_rfl
theorem fact22 : ((Rows.modelModesRow.plainKeys == Tryz.prog.plainKeys) : Bool) = true := by kernel_rfl
theorem fact23 : (Rows.modelModesRow.shortTexts.isNone : Bool) = true := by kernel_rfl
theorem fact24 : (Tryz.prog.stopsHeard : Bool) = true := by kernel_rfl
theorem fact25 : (Tryz.prog.mayEnter : Bool) = true := by kernel_rfl
theorem fact26 : ((Rows.modelModesRow.lifted == Tryz.prog.liftsFinal) : Bool) = true := by kernel_rfl
theorem fact27 : ((Tryz.prog.make == some Rows.modelModesRow.make) : Bool) = true := by kernel_rfl
theorem fact29 : ((Rows.modelModesRow.pinned == Rows.modelModesRow.pinnedBy) : Bool) = true := by kernel_rfl
theorem fact30 : ((Rows.modelModesRow.veiled == (Tryz.f6.params.toList ++ Rows.modelModesSpec.plain.varTypes Tryz.prog ++ Tryz.f6.resultTypes.toList).any (Tryz.prog.veiledRec ·)) : Bool) = true := by kernel_rfl
theorem fact31 : (Rows.modelModesRow.veiledFits Tryz.prog Tryz.f6.params.toList (Tryz.f6.params.toList ++ Rows.modelModesSpec.plain.varTypes Tryz.prog ++ Tryz.f6.resultTypes.toList) : Bool) = true := by kernel_rfl
theorem named_is : Tryz.pinned.checked.prog.funcNamed Rows.modelModesRow.func = some 6 := by kernel_rfl
theorem inst_is : Tryz.f6.isInstance Tryz.prog Rows.modelModesRow.origin Rows.modelModesRow.targs := of_decide_eq_true (by kernel_rfl)
theorem wrap_is : Tryz.f6.isWrapper Tryz.prog Rows.modelModesRow.wrapper Rows.modelModesRow.mainSum := by unfold Func.isWrapper; first | (rw [if_pos (by decide +kernel)]; kernel_rfl) | (rw [if_neg (by decide +kernel)]; exact ⟨rfl, rfl⟩)
theorem wf_is : Rows.modelModesRow.wfByText (OpenSpec.ofChange Rows.modelModesSpec) = true := by kernel_rfl
theorem main_is : Tryz.prog.mainIs = some ((true, "b9b07308e89a745983839b1ae4d25fabc5caf3266055858fdddf0ef1519788b4").1, (true, "b9b07308e89a745983839b1ae4d25fabc5caf3266055858fdddf0ef1519788b4").2.toList) := by kernel_rfl
theorem looks_is : true = Tryz.prog.looks [] := by kernel_rfl
theorem goes_is : false = Rows.modelModesRow.goesBy Tryz.prog := by kernel_rfl
end Go.Proofs.YtckbhajndplkiaaGreatDoor

/- The closed facts of the row of ModelFull, one by one, by the kernel. No conditions. -/
import Derived.Test.YtckbhajndplkiaaGreatDoorRows
import Derived.JoinedOf
import Derived.SevenTiedAt
import Derived.KernelRfl
namespace Go.Proofs.YtckbhajndplkiaaGreatDoor
open Go
theorem and_true_of {a b : Bool} (h : a = true) (h' : b = true) : (a && b) = true := by rw [h, h']; rfl
theorem fact0 : (Rows.modelFullRow.wf (OpenSpec.ofChange Rows.modelFullSpec) : Bool) = true := by kernel_rfl
theorem fact1 : (laidOutB Tryz.prog : Bool) = true := by kernel_rfl
theorem fact2 : (mapsRowed Tryz.prog : Bool) = true := by kernel_rfl
theorem fact3 : (Tryz.f8.params.all (Tryz.prog.readableRec ·) : Bool) = true := by kernel_rfl
theorem fact4 : (namedTie Tryz.prog Rows.modelFullRow.named Rows.modelFullSpec.vars : Bool) = true := by kernel_rfl
theorem fact5 : ((Rows.modelFullRow.stops == []) : Bool) = true := by kernel_rfl
theorem fact6 : ((Tryz.prog.stops == []) : Bool) = true := by kernel_rfl
theorem fact7 : ((Rows.modelFullRow.knobs == []) : Bool) = true := by kernel_rfl
theorem fact8 : ((Tryz.prog.stopKnobs == []) : Bool) = true := by kernel_rfl
theorem fact9 : ((Rows.modelFullRow.inPlace == Tryz.prog.inPlace 8) : Bool) = true := by kernel_rfl
theorem fact10 : ((Rows.modelFullRow.unfollowed == Tryz.prog.unfollowed 8) : Bool) = true := by kernel_rfl
theorem fact11 : ((Rows.modelFullRow.recurses == Tryz.prog.recurses 8) : Bool) = true := by kernel_rfl
theorem fact12 : ((Rows.modelFullRow.named == Tryz.prog.varsNamed 8) : Bool) = true := by kernel_rfl
theorem fact13 : ((Rows.modelFullRow.maps == (Tryz.f8.params.toList ++ Rows.modelFullSpec.plain.varTypes Tryz.prog).any (Tryz.prog.mapsRec ·)) : Bool) = true := by kernel_rfl
theorem fact14 : ((Rows.modelFullRow.ifaces == (Tryz.f8.params.toList ++ Rows.modelFullSpec.plain.varTypes Tryz.prog).any (Tryz.prog.ifacesRec ·)) : Bool) = true := by kernel_rfl
theorem fact15 : ((Rows.modelFullRow.mapsOut == Tryz.prog.mapsAmong Tryz.f8.resultTypes.toList) : Bool) = true := by kernel_rfl
theorem fact16 : ((Rows.modelFullRow.loops == (Tryz.f8.params.toList ++ Rows.modelFullSpec.plain.varTypes Tryz.prog).any (Tryz.prog.loopsFrom ·)) : Bool) = true := by kernel_rfl
theorem fact17 : ((Rows.modelFullRow.wideKeys == (Tryz.f8.params.toList ++ Rows.modelFullSpec.plain.varTypes Tryz.prog ++ Tryz.f8.resultTypes.toList).any (Tryz.prog.wideKeysFrom ·)) : Bool) = true := by kernel_rfl
theorem fact18 : (Rows.modelFullSpec.vars.all (Tryz.prog.varReadable ·) : Bool) = true := by kernel_rfl
theorem fact19 : (Tryz.f8.resultTypes.all (fun t => Tryz.prog.readableRec t && decide (t < Tryz.prog.types.size)) : Bool) = true := by kernel_rfl
theorem fact20 : ((Rows.modelFullRow.ifacesOut == Tryz.f8.resultTypes.toList.any (Tryz.prog.ifacesRec ·)) : Bool) = true := by kernel_rfl
theorem fact21 : ((Rows.modelFullRow.loopsOut == Tryz.f8.resultTypes.toList.any (Tryz.prog.loopsFrom ·)) : Bool) = true := by kernel_rfl
theorem fact22 : ((Rows.modelFullRow.plainKeys == Tryz.prog.plainKeys) : Bool) = true := by kernel_rfl
theorem fact23 : (Rows.modelFullRow.shortTexts.isNone : Bool) = true := by kernel_rfl
theorem fact24 : (Tryz.prog.stopsHeard : Bool) = true := by kernel_rfl
theorem fact25 : (Tryz.prog.mayEnter : Bool) = true := by kernel_rfl
theorem fact26 : ((Rows.modelFullRow.lifted == Tryz.prog.liftsFinal) : Bool) = true := by kernel_rfl
theorem fact27 : ((Tryz.prog.make == some Rows.modelFullRow.make) : Bool) = true := by kernel_rfl
theorem fact29 : ((Rows.modelFullRow.pinned == Rows.modelFullRow.pinnedBy) : Bool) = true := by kernel_rfl
theorem fact30 : ((Rows.modelFullRow.veiled == (Tryz.f8.params.toList ++ Rows.modelFullSpec.plain.varTypes Tryz.prog ++ Tryz.f8.resultTypes.toList).any (Tryz.prog.veiledRec ·)) : Bool) = true := by kernel_rfl
theorem fact31 : (Rows.modelFullRow.veiledFits Tryz.prog Tryz.f8.params.toList (Tryz.f8.params.toList ++ Rows.modelFullSpec.plain.varTypes Tryz.prog ++ Tryz.f8.resultTypes.toList) : Bool) = true := by kernel_rfl
theorem named_is : Tryz.pinned.checked.prog.funcNamed Rows.modelFullRow.func = some 8 := by kernel_rfl
theorem inst_is : Tryz.f8.isInstance Tryz.prog Rows.modelFullRow.origin Rows.modelFullRow.targs := of_decide_eq_true (by kernel_rfl)
theorem wrap_is : Tryz.f8.isWrapper Tryz.prog Rows.modelFullRow.wrapper Rows.modelFullRow.mainSum := by unfold Func.isWrapper; first | (rw [if_pos (by decide +kernel)]; kernel_rfl) | (rw [if_neg (by decide +kernel)]; exact ⟨rfl, rfl⟩)
theorem wf_is : Rows.modelFullRow.wfByText (OpenSpec.ofChange Rows.modelFullSpec) = true := by kernel_rfl
theorem main_is : Tryz.prog.mainIs = some ((true, "b9b07308e89a745983839b1ae4d25fabc5caf3266055858fdddf0ef1519788b4").1, (true, "b9b07308e89a745983839b1ae4d25fabc5caf3266055858fdddf0ef1519788b4").2.toList) := by kernel_rfl
theorem looks_is : true = Tryz.prog.looks [] := by kernel_rfl
theorem goes_is : false = Rows.modelFullRow.goesBy Tryz.prog := by kernel_rfl
end Go.Proofs.YtckbhajndplkiaaGreatDoor

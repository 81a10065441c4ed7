/- The closed facts of the row of ModelCwd, one by one, by the kernel. No conditions. -/
import Derived.Test.YtckbhajndplkiaaGreatDoorRows
import Derived.JoinedOf
import Derived.SevenTiedAt
import Derived.KernelRfl
namespace Go.Proofs.YtckbhajndplkiaaGreatDoor
open Go
theorem and_true_of {a b : Bool} (h : a = true) (h' : b = true) : (a && b) = true := by rw [h, h']; rfl
theorem fact0 : (Rows.modelCwdRow.wf (OpenSpec.ofChange Rows.modelCwdSpec) : Bool) = true := by kernel_rfl
theorem fact1 : (laidOutB Tryz.prog : Bool) = true := by kernel_rfl
theorem fact2 : (mapsRowed Tryz.prog : Bool) = true := by kernel_rfl
theorem fact3 : (Tryz.f7.params.all (Tryz.prog.readableRec ·) : Bool) = true := by kernel_rfl
theorem fact4 : (namedTie Tryz.prog Rows.modelCwdRow.named Rows.modelCwdSpec.vars : Bool) = true := by kernel_rfl
theorem fact5 : ((Rows.modelCwdRow.stops == []) : Bool) = true := by kernel_rfl
theorem fact6 : ((Tryz.prog.stops == []) : Bool) = true := by kernel_rfl
theorem fact7 : ((Rows.modelCwdRow.knobs == []) : Bool) = true := by kernel_rfl
theorem fact8 : ((Tryz.prog.stopKnobs == []) : Bool) = true := by kernel_rfl
theorem fact9 : ((Rows.modelCwdRow.inPlace == Tryz.prog.inPlace 7) : Bool) = true := by kernel_rfl
theorem fact10 : ((Rows.modelCwdRow.unfollowed == Tryz.prog.unfollowed 7) : Bool) = true := by kernel_rfl
theorem fact11 : ((Rows.modelCwdRow.recurses == Tryz.prog.recurses 7) : Bool) = true := by kernel_rfl
theorem fact12 : ((Rows.modelCwdRow.named == Tryz.prog.varsNamed 7) : Bool) = true := by kernel_rfl
theorem fact13 : ((Rows.modelCwdRow.maps == (Tryz.f7.params.toList ++ Rows.modelCwdSpec.plain.varTypes Tryz.prog).any (Tryz.prog.mapsRec ·)) : Bool) = true := by kernel_rfl
theorem fact14 : ((Rows.modelCwdRow.ifaces == (Tryz.f7.params.toList ++ Rows.modelCwdSpec.plain.varTypes Tryz.prog).any (Tryz.prog.ifacesRec ·)) : Bool) = true := by kernel_rfl
theorem fact15 : ((Rows.modelCwdRow.mapsOut == Tryz.prog.mapsAmong Tryz.f7.resultTypes.toList) : Bool) = true := by kernel_rfl
theorem fact16 : ((Rows.modelCwdRow.loops == (Tryz.f7.params.toList ++ Rows.modelCwdSpec.plain.varTypes Tryz.prog).any (Tryz.prog.loopsFrom ·)) : Bool) = true := by kernel_rfl
theorem fact17 : ((Rows.modelCwdRow.wideKeys == (Tryz.f7.params.toList ++ Rows.modelCwdSpec.plain.varTypes Tryz.prog ++ Tryz.f7.resultTypes.toList).any (Tryz.prog.wideKeysFrom ·)) : Bool) = true := by kernel_rfl
theorem fact18 : (Rows.modelCwdSpec.vars.all (Tryz.prog.varReadable ·) : Bool) = true := by kernel_rfl
theorem fact19 : (Tryz.f7.resultTypes.all (fun t => Tryz.prog.readableRec t && decide (t < Tryz.prog.types.size)) : Bool) = true := by kernel_rfl
theorem fact20 : ((Rows.modelCwdRow.ifacesOut == Tryz.f7.resultTypes.toList.any (Tryz.prog.ifacesRec ·)) : Bool) = true := by kernel_rfl
theorem fact21 : ((Rows.modelCwdRow.loopsOut == Tryz.f7.resultTypes.toList.any (Tryz.prog.loopsFrom ·)) : Bool) = true := by kernel_rfl
theorem fact22 : ((Rows.modelCwdRow.plainKeys == Tryz.prog.plainKeys) : Bool) = true := by kernel_rfl
theorem fact23 : (Rows.modelCwdRow.shortTexts.isNone : Bool) = true := by kernel_rfl
theorem fact24 : (Tryz.prog.stopsHeard : Bool) = true := by kernel_rfl
theorem fact25 : (Tryz.prog.mayEnter : Bool) = true := by kernel_rfl
theorem fact26 : ((Rows.modelCwdRow.lifted == Tryz.prog.liftsFinal) : Bool) = true := by kernel_rfl
theorem fact27 : ((Tryz.prog.make == some Rows.modelCwdRow.make) : Bool) = true := by kernel_rfl
theorem fact29 : ((Rows.modelCwdRow.pinned == Rows.modelCwdRow.pinnedBy) : Bool) = true := by kernel_rfl
theorem fact30 : ((Rows.modelCwdRow.veiled == (Tryz.f7.params.toList ++ Rows.modelCwdSpec.plain.varTypes Tryz.prog ++ Tryz.f7.resultTypes.toList).any (Tryz.prog.veiledRec ·)) : Bool) = true := by kernel_rfl
theorem fact31 : (Rows.modelCwdRow.veiledFits Tryz.prog Tryz.f7.params.toList (Tryz.f7.params.toList ++ Rows.modelCwdSpec.plain.varTypes Tryz.prog ++ Tryz.f7.resultTypes.toList) : Bool) = true := by kernel_rfl
theorem named_is : Tryz.pinned.checked.prog.funcNamed Rows.modelCwdRow.func = some 7 := by kernel_rfl
theorem inst_is : Tryz.f7.isInstance Tryz.prog Rows.modelCwdRow.origin Rows.modelCwdRow.targs := of_decide_eq_true (by kernel_rfl)
theorem wrap_is : Tryz.f7.isWrapper Tryz.prog Rows.modelCwdRow.wrapper Rows.modelCwdRow.mainSum := by unfold Func.isWrapper; first | (rw [if_pos (by decide +kernel)]; kernel_rfl) | (rw [if_neg (by decide +kernel)]; exact ⟨rfl, rfl⟩)
theorem wf_is : Rows.modelCwdRow.wfByText (OpenSpec.ofChange Rows.modelCwdSpec) = true := by kernel_rfl
theorem main_is : Tryz.prog.mainIs = some ((true, "b9b07308e89a745983839b1ae4d25fabc5caf3266055858fdddf0ef1519788b4").1, (true, "b9b07308e89a745983839b1ae4d25fabc5caf3266055858fdddf0ef1519788b4").2.toList) := by kernel_rfl
theorem looks_is : true = Tryz.prog.looks [] := by kernel_rfl
theorem goes_is : false = Rows.modelCwdRow.goesBy Tryz.prog := by kernel_rfl
end Go.Proofs.YtckbhajndplkiaaGreatDoor

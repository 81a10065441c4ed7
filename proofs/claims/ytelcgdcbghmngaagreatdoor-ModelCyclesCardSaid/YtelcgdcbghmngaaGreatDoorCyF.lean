/- The closed facts of the row of ModelCycles, one by one, by the kernel. No conditions. -/
import Derived.Test.YtelcgdcbghmngaaGreatDoorRows
import Derived.JoinedOf
import Derived.SevenTiedAt
import Derived.KernelRfl
namespace Go.Proofs.YtelcgdcbghmngaaGreatDoor
open Go
theorem and_true_of {a b : Bool} (h : a = true) (h' : b = true) : (a && b) = true := by rw [h, h']; rfl
theorem fact0 : (Rows.modelCyclesRow.wf (OpenSpec.ofChange Rows.modelCyclesSpec) : Bool) = true := by kernel_rfl
theorem fact1 : (laidOutB Tryz.prog : Bool) = true := by kernel_rfl
theorem fact2 : (mapsRowed Tryz.prog : Bool) = true := by kernel_rfl
theorem fact3 : (Tryz.f5.params.all (Tryz.prog.readableRec ·) : Bool) = true := by kernel_rfl
theorem fact4 : (namedTie Tryz.prog Rows.modelCyclesRow.named Rows.modelCyclesSpec.vars : Bool) = true := by kernel_rfl
theorem fact5 : ((Rows.modelCyclesRow.stops == []) : Bool) = true := by kernel_rfl
theorem fact6 : ((Tryz.prog.stops == []) : Bool) = true := by kernel_rfl
theorem fact7 : ((Rows.modelCyclesRow.knobs == []) : Bool) = true := by kernel_rfl
theorem fact8 : ((Tryz.prog.stopKnobs == []) : Bool) = true := by kernel_rfl
theorem fact9 : ((Rows.modelCyclesRow.inPlace == Tryz.prog.inPlace 5) : Bool) = true := by kernel_rfl
theorem fact10 : ((Rows.modelCyclesRow.unfollowed == Tryz.prog.unfollowed 5) : Bool) = true := by kernel_rfl
theorem fact11 : ((Rows.modelCyclesRow.recurses == Tryz.prog.recurses 5) : Bool) = true := by kernel_rfl
theorem fact12 : ((Rows.modelCyclesRow.named == Tryz.prog.varsNamed 5) : Bool) = true := by kernel_rfl
theorem fact13 : ((Rows.modelCyclesRow.maps == (Tryz.f5.params.toList ++ Rows.modelCyclesSpec.plain.varTypes Tryz.prog).any (Tryz.prog.mapsRec ·)) : Bool) = true := by kernel_rfl
theorem fact14 : ((Rows.modelCyclesRow.ifaces == (Tryz.f5.params.toList ++ Rows.modelCyclesSpec.plain.varTypes Tryz.prog).any (Tryz.prog.ifacesRec ·)) : Bool) = true := by kernel_rfl
theorem fact15 : ((Rows.modelCyclesRow.mapsOut == Tryz.prog.mapsAmong Tryz.f5.resultTypes.toList) : Bool) = true := by kernel_rfl
theorem fact16 : ((Rows.modelCyclesRow.loops == (Tryz.f5.params.toList ++ Rows.modelCyclesSpec.plain.varTypes Tryz.prog).any (Tryz.prog.loopsFrom ·)) : Bool) = true := by kernel_rfl
theorem fact17 : ((Rows.modelCyclesRow.wideKeys == (Tryz.f5.params.toList ++ Rows.modelCyclesSpec.plain.varTypes Tryz.prog ++ Tryz.f5.resultTypes.toList).any (Tryz.prog.wideKeysFrom ·)) : Bool) = true := by kernel_rfl
theorem fact18 : (Rows.modelCyclesSpec.vars.all (Tryz.prog.varReadable ·) : Bool) = true := by kernel_rfl
theorem fact19 : (Tryz.f5.resultTypes.all (fun t => Tryz.prog.readableRec t && decide (t < Tryz.prog.types.size)) : Bool) = true := by kernel_rfl
theorem fact20 : ((Rows.modelCyclesRow.ifacesOut == Tryz.f5.resultTypes.toList.any (Tryz.prog.ifacesRec ·)) : Bool) = true := by kernel_rfl
theorem fact21 : ((Rows.modelCyclesRow.loopsOut == Tryz.f5.resultTypes.toList.any (Tryz.prog.loopsFrom ·)) : Bool) = true := by kernel_rfl
theorem fact22 : ((Rows.modelCyclesRow.plainKeys == Tryz.prog.plainKeys) : Bool) = true := by kernel_rfl
theorem fact23 : (Rows.modelCyclesRow.shortTexts.isNone : Bool) = true := by kernel_rfl
theorem fact24 : (Tryz.prog.stopsHeard : Bool) = true := by kernel_rfl
theorem fact25 : (Tryz.prog.mayEnter : Bool) = true := by kernel_rfl
theorem fact26 : ((Rows.modelCyclesRow.lifted == Tryz.prog.liftsFinal) : Bool) = true := by kernel_rfl
theorem fact27 : ((Tryz.prog.make == some Rows.modelCyclesRow.make) : Bool) = true := by kernel_rfl
theorem fact29 : ((Rows.modelCyclesRow.pinned == Rows.modelCyclesRow.pinnedBy) : Bool) = true := by kernel_rfl
theorem fact30 : ((Rows.modelCyclesRow.veiled == (Tryz.f5.params.toList ++ Rows.modelCyclesSpec.plain.varTypes Tryz.prog ++ Tryz.f5.resultTypes.toList).any (Tryz.prog.veiledRec ·)) : Bool) = true := by kernel_rfl
theorem fact31 : (Rows.modelCyclesRow.veiledFits Tryz.prog Tryz.f5.params.toList (Tryz.f5.params.toList ++ Rows.modelCyclesSpec.plain.varTypes Tryz.prog ++ Tryz.f5.resultTypes.toList) : Bool) = true := by kernel_rfl
theorem named_is : Tryz.pinned.checked.prog.funcNamed Rows.modelCyclesRow.func = some 5 := by kernel_rfl
theorem inst_is : Tryz.f5.isInstance Tryz.prog Rows.modelCyclesRow.origin Rows.modelCyclesRow.targs := of_decide_eq_true (by kernel_rfl)
theorem wrap_is : Tryz.f5.isWrapper Tryz.prog Rows.modelCyclesRow.wrapper Rows.modelCyclesRow.mainSum := by unfold Func.isWrapper; first | (rw [if_pos (by decide +kernel)]; kernel_rfl) | (rw [if_neg (by decide +kernel)]; exact ⟨rfl, rfl⟩)
theorem wf_is : Rows.modelCyclesRow.wfByText (OpenSpec.ofChange Rows.modelCyclesSpec) = true := by kernel_rfl
theorem main_is : Tryz.prog.mainIs = some ((true, "fe829b298701c9457d05b2ddc70ef72007ba294b4149ada241c551fc2126c834").1, (true, "fe829b298701c9457d05b2ddc70ef72007ba294b4149ada241c551fc2126c834").2.toList) := by kernel_rfl
theorem looks_is : true = Tryz.prog.looks [] := by kernel_rfl
theorem goes_is : false = Rows.modelCyclesRow.goesBy Tryz.prog := by kernel_rfl
end Go.Proofs.YtelcgdcbghmngaaGreatDoor

/- The closed facts of the row of ModelRenames, one by one, by the kernel. No conditions. -/
import Derived.Test.YtelcgdcbghmngaaGreatDoorRows
import Derived.JoinedOf
import Derived.SevenTiedAt
import Derived.KernelRfl
namespace Go.Proofs.YtelcgdcbghmngaaGreatDoor
open Go
theorem and_true_of {a b : Bool} (h : a = true) (h' : b = true) : (a && b) = true := by rw [h, h']; rfl
theorem fact0 : (Rows.modelRenamesRow.wf (OpenSpec.ofChange Rows.modelRenamesSpec) : Bool) = true := by kernel_rfl
theorem fact1 : (laidOutB Tryz.prog : Bool) = true := by kernel_rfl
theorem fact2 : (mapsRowed Tryz.prog : Bool) = true := by kernel_rfl
theorem fact3 : (Tryz.f4.params.all (Tryz.prog.readableRec ·) : Bool) = true := by kernel_rfl
theorem fact4 : (namedTie Tryz.prog Rows.modelRenamesRow.named Rows.modelRenamesSpec.vars : Bool) = true := by kernel_rfl
theorem fact5 : ((Rows.modelRenamesRow.stops == []) : Bool) = true := by kernel_rfl
theorem fact6 : ((Tryz.prog.stops == []) : Bool) = true := by kernel_rfl
theorem fact7 : ((Rows.modelRenamesRow.knobs == []) : Bool) = true := by kernel_rfl
theorem fact8 : ((Tryz.prog.stopKnobs == []) : Bool) = true := by kernel_rfl
theorem fact9 : ((Rows.modelRenamesRow.inPlace == Tryz.prog.inPlace 4) : Bool) = true := by kernel_rfl
theorem fact10 : ((Rows.modelRenamesRow.unfollowed == Tryz.prog.unfollowed 4) : Bool) = true := by kernel_rfl
theorem fact11 : ((Rows.modelRenamesRow.recurses == Tryz.prog.recurses 4) : Bool) = true := by kernel_rfl
theorem fact12 : ((Rows.modelRenamesRow.named == Tryz.prog.varsNamed 4) : Bool) = true := by kernel_rfl
theorem fact13 : ((Rows.modelRenamesRow.maps == (Tryz.f4.params.toList ++ Rows.modelRenamesSpec.plain.varTypes Tryz.prog).any (Tryz.prog.mapsRec ·)) : Bool) = true := by kernel_rfl
theorem fact14 : ((Rows.modelRenamesRow.ifaces == (Tryz.f4.params.toList ++ Rows.modelRenamesSpec.plain.varTypes Tryz.prog).any (Tryz.prog.ifacesRec ·)) : Bool) = true := by kernel_rfl
theorem fact15 : ((Rows.modelRenamesRow.mapsOut == Tryz.prog.mapsAmong Tryz.f4.resultTypes.toList) : Bool) = true := by kernel_rfl
theorem fact16 : ((Rows.modelRenamesRow.loops == (Tryz.f4.params.toList ++ Rows.modelRenamesSpec.plain.varTypes Tryz.prog).any (Tryz.prog.loopsFrom ·)) : Bool) = true := by kernel_rfl
theorem fact17 : ((Rows.modelRenamesRow.wideKeys == (Tryz.f4.params.toList ++ Rows.modelRenamesSpec.plain.varTypes Tryz.prog ++ Tryz.f4.resultTypes.toList).any (Tryz.prog.wideKeysFrom ·)) : Bool) = true := by kernel_rfl
theorem fact18 : (Rows.modelRenamesSpec.vars.all (Tryz.prog.varReadable ·) : Bool) = true := by kernel_rfl
theorem fact19 : (Tryz.f4.resultTypes.all (fun t => Tryz.prog.readableRec t && decide (t < Tryz.prog.types.size)) : Bool) = true := by kernel_rfl
theorem fact20 : ((Rows.modelRenamesRow.ifacesOut == Tryz.f4.resultTypes.toList.any (Tryz.prog.ifacesRec ·)) : Bool) = true := by kernel_rfl
theorem fact21 : ((Rows.modelRenamesRow.loopsOut == Tryz.f4.resultTypes.toList.any (Tryz.prog.loopsFrom ·)) : Bool) = true := by kernel_rfl
theorem fact22 : ((Rows.modelRenamesRow.plainKeys == Tryz.prog.plainKeys) : Bool) = true := by kernel_rfl
theorem fact23 : (Rows.modelRenamesRow.shortTexts.isNone : Bool) = true := by kernel_rfl
theorem fact24 : (Tryz.prog.stopsHeard : Bool) = true := by kernel_rfl
theorem fact25 : (Tryz.prog.mayEnter : Bool) = true := by kernel_rfl
theorem fact26 : ((Rows.modelRenamesRow.lifted == Tryz.prog.liftsFinal) : Bool) = true := by kernel_rfl
theorem fact27 : ((Tryz.prog.make == some Rows.modelRenamesRow.make) : Bool) = true := by kernel_rfl
theorem fact29 : ((Rows.modelRenamesRow.pinned == Rows.modelRenamesRow.pinnedBy) : Bool) = true := by kernel_rfl
theorem fact30 : ((Rows.modelRenamesRow.veiled == (Tryz.f4.params.toList ++ Rows.modelRenamesSpec.plain.varTypes Tryz.prog ++ Tryz.f4.resultTypes.toList).any (Tryz.prog.veiledRec ·)) : Bool) = true := by kernel_rfl
theorem fact31 : (Rows.modelRenamesRow.veiledFits Tryz.prog Tryz.f4.params.toList (Tryz.f4.params.toList ++ Rows.modelRenamesSpec.plain.varTypes Tryz.prog ++ Tryz.f4.resultTypes.toList) : Bool) = true := by kernel_rfl
theorem named_is : Tryz.pinned.checked.prog.funcNamed Rows.modelRenamesRow.func = some 4 := by kernel_rfl
theorem inst_is : Tryz.f4.isInstance Tryz.prog Rows.modelRenamesRow.origin Rows.modelRenamesRow.targs := of_decide_eq_true (by kernel_rfl)
theorem wrap_is : Tryz.f4.isWrapper Tryz.prog Rows.modelRenamesRow.wrapper Rows.modelRenamesRow.mainSum := by unfold Func.isWrapper; first | (rw [if_pos (by decide +kernel)]; kernel_rfl) | (rw [if_neg (by decide +kernel)]; exact ⟨rfl, rfl⟩)
theorem wf_is : Rows.modelRenamesRow.wfByText (OpenSpec.ofChange Rows.modelRenamesSpec) = true := by kernel_rfl
theorem main_is : Tryz.prog.mainIs = some ((true, "fe829b298701c9457d05b2ddc70ef72007ba294b4149ada241c551fc2126c834").1, (true, "fe829b298701c9457d05b2ddc70ef72007ba294b4149ada241c551fc2126c834").2.toList) := by kernel_rfl
theorem looks_is : true = Tryz.prog.looks [] := by kernel_rfl
theorem goes_is : false = Rows.modelRenamesRow.goesBy Tryz.prog := by kernel_rfl
end Go.Proofs.YtelcgdcbghmngaaGreatDoor

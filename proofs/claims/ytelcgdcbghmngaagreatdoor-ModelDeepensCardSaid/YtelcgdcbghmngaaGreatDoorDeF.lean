/- The closed facts of the row of ModelDeepens, one by one, by the kernel. No conditions. -/
import Derived.Test.YtelcgdcbghmngaaGreatDoorRows
import Derived.JoinedOf
import Derived.SevenTiedAt
import Derived.KernelRfl
namespace Go.Proofs.YtelcgdcbghmngaaGreatDoor
open Go
theorem and_true_of {a b : Bool} (h : a = true) (h' : b = true) : (a && b) = true := by rw [h, h']; rfl
theorem fact0 : (Rows.modelDeepensRow.wf (OpenSpec.ofChange Rows.modelDeepensSpec) : Bool) = true := by kernel_rfl
theorem fact1 : (laidOutB Tryz.prog : Bool) = true := by kernel_rfl
theorem fact2 : (mapsRowed Tryz.prog : Bool) = true := by kernel_rfl
theorem fact3 : (Tryz.f6.params.all (Tryz.prog.readableRec ·) : Bool) = true := by kernel_rfl
theorem fact4 : (namedTie Tryz.prog Rows.modelDeepensRow.named Rows.modelDeepensSpec.vars : Bool) = true := by kernel_rfl
theorem fact5 : ((Rows.modelDeepensRow.stops == []) : Bool) = true := by kernel_rfl
theorem fact6 : ((Tryz.prog.stops == []) : Bool) = true := by kernel_rfl
theorem fact7 : ((Rows.modelDeepensRow.knobs == []) : Bool) = true := by kernel_rfl
theorem fact8 : ((Tryz.prog.stopKnobs == []) : Bool) = true := by kernel_rfl
theorem fact9 : ((Rows.modelDeepensRow.inPlace == Tryz.prog.inPlace 6) : Bool) = true := by kernel_rfl
theorem fact10 : ((Rows.modelDeepensRow.unfollowed == Tryz.prog.unfollowed 6) : Bool) = true := by kernel_rfl
theorem fact11 : ((Rows.modelDeepensRow.recurses == Tryz.prog.recurses 6) : Bool) = true := by kernel_rfl
theorem fact12 : ((Rows.modelDeepensRow.named == Tryz.prog.varsNamed 6) : Bool) = true := by kernel_rfl
theorem fact13 : ((Rows.modelDeepensRow.maps == (Tryz.f6.params.toList ++ Rows.modelDeepensSpec.plain.varTypes Tryz.prog).any (Tryz.prog.mapsRec ·)) : Bool) = true := by kernel_rfl
theorem fact14 : ((Rows.modelDeepensRow.ifaces == (Tryz.f6.params.toList ++ Rows.modelDeepensSpec.plain.varTypes Tryz.prog).any (Tryz.prog.ifacesRec ·)) : Bool) = true := by kernel_rfl
theorem fact15 : ((Rows.modelDeepensRow.mapsOut == Tryz.prog.mapsAmong Tryz.f6.resultTypes.toList) : Bool) = true := by kernel_rfl
theorem fact16 : ((Rows.modelDeepensRow.loops == (Tryz.f6.params.toList ++ Rows.modelDeepensSpec.plain.varTypes Tryz.prog).any (Tryz.prog.loopsFrom ·)) : Bool) = true := by kernel_rfl
theorem fact17 : ((Rows.modelDeepensRow.wideKeys == (Tryz.f6.params.toList ++ Rows.modelDeepensSpec.plain.varTypes Tryz.prog ++ Tryz.f6.resultTypes.toList).any (Tryz.prog.wideKeysFrom ·)) : Bool) = true := by kernel_rfl
theorem fact18 : (Rows.modelDeepensSpec.vars.all (Tryz.prog.varReadable ·) : Bool) = true := by kernel_rfl
theorem fact19 : (Tryz.f6.resultTypes.all (fun t => Tryz.prog.readableRec t && decide (t < Tryz.prog.types.size)) : Bool) = true := by kernel_rfl
theorem fact20 : ((Rows.modelDeepensRow.ifacesOut == Tryz.f6.resultTypes.toList.any (Tryz.prog.ifacesRec ·)) : Bool) = true := by kernel_rfl
theorem fact21 : ((Rows.modelDeepensRow.loopsOut == Tryz.f6.resultTypes.toList.any (Tryz.prog.loopsFrom ·)) : Bool) = true := by kernel_rfl
theorem fact22 : ((Rows.modelDeepensRow.plainKeys == Tryz.prog.plainKeys) : Bool) = true := by kernel_rfl
theorem fact23 : (Rows.modelDeepensRow.shortTexts.isNone : Bool) = true := by kernel_rfl
theorem fact24 : (Tryz.prog.stopsHeard : Bool) = true := by kernel_rfl
theorem fact25 : (Tryz.prog.mayEnter : Bool) = true := by kernel_rfl
theorem fact26 : ((Rows.modelDeepensRow.lifted == Tryz.prog.liftsFinal) : Bool) = true := by kernel_rfl
theorem fact27 : ((Tryz.prog.make == some Rows.modelDeepensRow.make) : Bool) = true := by kernel_rfl
theorem fact29 : ((Rows.modelDeepensRow.pinned == Rows.modelDeepensRow.pinnedBy) : Bool) = true := by kernel_rfl
theorem fact30 : ((Rows.modelDeepensRow.veiled == (Tryz.f6.params.toList ++ Rows.modelDeepensSpec.plain.varTypes Tryz.prog ++ Tryz.f6.resultTypes.toList).any (Tryz.prog.veiledRec ·)) : Bool) = true := by kernel_rfl
theorem fact31 : (Rows.modelDeepensRow.veiledFits Tryz.prog Tryz.f6.params.toList (Tryz.f6.params.toList ++ Rows.modelDeepensSpec.plain.varTypes Tryz.prog ++ Tryz.f6.resultTypes.toList) : Bool) = true := by kernel_rfl
theorem named_is : Tryz.pinned.checked.prog.funcNamed Rows.modelDeepensRow.func = some 6 := by kernel_rfl
theorem inst_is : Tryz.f6.isInstance Tryz.prog Rows.modelDeepensRow.origin Rows.modelDeepensRow.targs := of_decide_eq_true (by kernel_rfl)
theorem wrap_is : Tryz.f6.isWrapper Tryz.prog Rows.modelDeepensRow.wrapper Rows.modelDeepensRow.mainSum := by unfold Func.isWrapper; first | (rw [if_pos (by decide +kernel)]; kernel_rfl) | (rw [if_neg (by decide +kernel)]; exact ⟨rfl, rfl⟩)
theorem wf_is : Rows.modelDeepensRow.wfByText (OpenSpec.ofChange Rows.modelDeepensSpec) = true := by kernel_rfl
theorem main_is : Tryz.prog.mainIs = some ((true, "fe829b298701c9457d05b2ddc70ef72007ba294b4149ada241c551fc2126c834").1, (true, "fe829b298701c9457d05b2ddc70ef72007ba294b4149ada241c551fc2126c834").2.toList) := by kernel_rfl
theorem looks_is : true = Tryz.prog.looks [] := by kernel_rfl
theorem goes_is : false = Rows.modelDeepensRow.goesBy Tryz.prog := by kernel_rfl
end Go.Proofs.YtelcgdcbghmngaaGreatDoor

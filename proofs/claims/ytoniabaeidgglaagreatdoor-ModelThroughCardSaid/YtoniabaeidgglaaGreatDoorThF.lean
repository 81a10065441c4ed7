/- The closed facts of the row of ModelThrough, one by one, by the kernel. No conditions. -/
import Derived.Test.YtoniabaeidgglaaGreatDoorRows
import Derived.JoinedOf
import Derived.SevenTiedAt
import Derived.KernelRfl
namespace Go.Proofs.YtoniabaeidgglaaGreatDoor
open Go
theorem and_true_of {a b : Bool} (h : a = true) (h' : b = true) : (a && b) = true := by rw [h, h']; rfl
theorem fact0 : (Rows.modelThroughRow.wf (OpenSpec.ofChange Rows.modelThroughSpec) : Bool) = true := by kernel_rfl
theorem fact1 : (laidOutB Tryz.prog : Bool) = true := by kernel_rfl
theorem fact2 : (mapsRowed Tryz.prog : Bool) = true := by kernel_rfl
theorem fact3 : (Tryz.f3.params.all (Tryz.prog.readableRec ·) : Bool) = true := by kernel_rfl
theorem fact4 : (namedTie Tryz.prog Rows.modelThroughRow.named Rows.modelThroughSpec.vars : Bool) = true := by kernel_rfl
theorem fact5 : ((Rows.modelThroughRow.stops == []) : Bool) = true := by kernel_rfl
theorem fact6 : ((Tryz.prog.stops == []) : Bool) = true := by kernel_rfl
theorem fact7 : ((Rows.modelThroughRow.knobs == []) : Bool) = true := by kernel_rfl
theorem fact8 : ((Tryz.prog.stopKnobs == []) : Bool) = true := by kernel_rfl
theorem fact9 : ((Rows.modelThroughRow.inPlace == Tryz.prog.inPlace 3) : Bool) = true := by kernel_rfl
theorem fact10 : ((Rows.modelThroughRow.unfollowed == Tryz.prog.unfollowed 3) : Bool) = true := by kernel_rfl
theorem fact11 : ((Rows.modelThroughRow.recurses == Tryz.prog.recurses 3) : Bool) = true := by kernel_rfl
theorem fact12 : ((Rows.modelThroughRow.named == Tryz.prog.varsNamed 3) : Bool) = true := by kernel_rfl
theorem fact13 : ((Rows.modelThroughRow.maps == (Tryz.f3.params.toList ++ Rows.modelThroughSpec.plain.varTypes Tryz.prog).any (Tryz.prog.mapsRec ·)) : Bool) = true := by kernel_rfl
theorem fact14 : ((Rows.modelThroughRow.ifaces == (Tryz.f3.params.toList ++ Rows.modelThroughSpec.plain.varTypes Tryz.prog).any (Tryz.prog.ifacesRec ·)) : Bool) = true := by kernel_rfl
theorem fact15 : ((Rows.modelThroughRow.mapsOut == Tryz.prog.mapsAmong Tryz.f3.resultTypes.toList) : Bool) = true := by kernel_rfl
theorem fact16 : ((Rows.modelThroughRow.loops == (Tryz.f3.params.toList ++ Rows.modelThroughSpec.plain.varTypes Tryz.prog).any (Tryz.prog.loopsFrom ·)) : Bool) = true := by kernel_rfl
theorem fact17 : ((Rows.modelThroughRow.wideKeys == (Tryz.f3.params.toList ++ Rows.modelThroughSpec.plain.varTypes Tryz.prog ++ Tryz.f3.resultTypes.toList).any (Tryz.prog.wideKeysFrom ·)) : Bool) = true := by kernel_rfl
theorem fact18 : (Rows.modelThroughSpec.vars.all (Tryz.prog.varReadable ·) : Bool) = true := by kernel_rfl
theorem fact19 : (Tryz.f3.resultTypes.all (fun t => Tryz.prog.readableRec t && decide (t < Tryz.prog.types.size)) : Bool) = true := by kernel_rfl
theorem fact20 : ((Rows.modelThroughRow.ifacesOut == Tryz.f3.resultTypes.toList.any (Tryz.prog.ifacesRec ·)) : Bool) = true := by kernel_rfl
theorem fact21 : ((Rows.modelThroughRow.loopsOut == Tryz.f3.resultTypes.toList.any (Tryz.prog.loopsFrom ·)) : Bool) = true := by kernel_rfl
theorem fact22 : ((Rows.modelThroughRow.plainKeys == Tryz.prog.plainKeys) : Bool) = true := by kernel_rfl
theorem fact23 : (Rows.modelThroughRow.shortTexts.isNone : Bool) = true := by kernel_rfl
theorem fact24 : (Tryz.prog.stopsHeard : Bool) = true := by kernel_rfl
theorem fact25 : (Tryz.prog.mayEnter : Bool) = true := by kernel_rfl
theorem fact26 : ((Rows.modelThroughRow.lifted == Tryz.prog.liftsFinal) : Bool) = true := by kernel_rfl
theorem fact27 : ((Tryz.prog.make == some Rows.modelThroughRow.make) : Bool) = true := by kernel_rfl
theorem fact29 : ((Rows.modelThroughRow.pinned == Rows.modelThroughRow.pinnedBy) : Bool) = true := by kernel_rfl
theorem fact30 : ((Rows.modelThroughRow.veiled == (Tryz.f3.params.toList ++ Rows.modelThroughSpec.plain.varTypes Tryz.prog ++ Tryz.f3.resultTypes.toList).any (Tryz.prog.veiledRec ·)) : Bool) = true := by kernel_rfl
theorem fact31 : (Rows.modelThroughRow.veiledFits Tryz.prog Tryz.f3.params.toList (Tryz.f3.params.toList ++ Rows.modelThroughSpec.plain.varTypes Tryz.prog ++ Tryz.f3.resultTypes.toList) : Bool) = true := by kernel_rfl
theorem named_is : Tryz.pinned.checked.prog.funcNamed Rows.modelThroughRow.func = some 3 := by kernel_rfl
theorem inst_is : Tryz.f3.isInstance Tryz.prog Rows.modelThroughRow.origin Rows.modelThroughRow.targs := of_decide_eq_true (by kernel_rfl)
theorem wrap_is : Tryz.f3.isWrapper Tryz.prog Rows.modelThroughRow.wrapper Rows.modelThroughRow.mainSum := by unfold Func.isWrapper; first | (rw [if_pos (by decide +kernel)]; kernel_rfl) | (rw [if_neg (by decide +kernel)]; exact ⟨rfl, rfl⟩)
theorem wf_is : Rows.modelThroughRow.wfByText (OpenSpec.ofChange Rows.modelThroughSpec) = true := by kernel_rfl
theorem main_is : Tryz.prog.mainIs = some ((true, "b25f04d4d80861df8ba6eba75b83021af2527c1f66a10fc498dc1da9275de67e").1, (true, "b25f04d4d80861df8ba6eba75b83021af2527c1f66a10fc498dc1da9275de67e").2.toList) := by kernel_rfl
theorem looks_is : true = Tryz.prog.looks [] := by kernel_rfl
theorem goes_is : false = Rows.modelThroughRow.goesBy Tryz.prog := by kernel_rfl
end Go.Proofs.YtoniabaeidgglaaGreatDoor

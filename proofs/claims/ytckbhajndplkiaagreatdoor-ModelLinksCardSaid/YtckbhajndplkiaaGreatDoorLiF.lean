/- The closed facts of the row of ModelLinks, one by one, by the kernel. No conditions. -/
import Derived.Test.YtckbhajndplkiaaGreatDoorRows
import Derived.JoinedOf
import Derived.SevenTiedAt
import Derived.KernelRfl
namespace Go.Proofs.YtckbhajndplkiaaGreatDoor
open Go
theorem and_true_of {a b : Bool} (h : a = true) (h' : b = true) : (a && b) = true := by rw [h, h']; rfl
theorem fact0 : (Rows.modelLinksRow.wf (OpenSpec.ofChange Rows.modelLinksSpec) : Bool) = true := by kernel_rfl
theorem fact1 : (laidOutB Tryz.prog : Bool) = true := by kernel_rfl
theorem fact2 : (mapsRowed Tryz.prog : Bool) = true := by kernel_rfl
theorem fact3 : (Tryz.f4.params.all (Tryz.prog.readableRec ·) : Bool) = true := by kernel_rfl
theorem fact4 : (namedTie Tryz.prog Rows.modelLinksRow.named Rows.modelLinksSpec.vars : Bool) = true := by kernel_rfl
theorem fact5 : ((Rows.modelLinksRow.stops == []) : Bool) = true := by kernel_rfl
theorem fact6 : ((Tryz.prog.stops == []) : Bool) = true := by kernel_rfl
theorem fact7 : ((Rows.modelLinksRow.knobs == []) : Bool) = true := by kernel_rfl
theorem fact8 : ((Tryz.prog.stopKnobs == []) : Bool) = true := by kernel_rfl
theorem fact9 : ((Rows.modelLinksRow.inPlace == Tryz.prog.inPlace 4) : Bool) = true := by kernel_rfl
theorem fact10 : ((Rows.modelLinksRow.unfollowed == Tryz.prog.unfollowed 4) : Bool) = true := by kernel_rfl
theorem fact11 : ((Rows.modelLinksRow.recurses == Tryz.prog.recurses 4) : Bool) = true := by kernel_rfl
theorem fact12 : ((Rows.modelLinksRow.named == Tryz.prog.varsNamed 4) : Bool) = true := by kernel_rfl
theorem fact13 : ((Rows.modelLinksRow.maps == (Tryz.f4.params.toList ++ Rows.modelLinksSpec.plain.varTypes Tryz.prog).any (Tryz.prog.mapsRec ·)) : Bool) = true := by kernel_rfl
theorem fact14 : ((Rows.modelLinksRow.ifaces == (Tryz.f4.params.toList ++ Rows.modelLinksSpec.plain.varTypes Tryz.prog).any (Tryz.prog.ifacesRec ·)) : Bool) = true := by kernel_rfl
theorem fact15 : ((Rows.modelLinksRow.mapsOut == Tryz.prog.mapsAmong Tryz.f4.resultTypes.toList) : Bool) = true := by kernel_rfl
theorem fact16 : ((Rows.modelLinksRow.loops == (Tryz.f4.params.toList ++ Rows.modelLinksSpec.plain.varTypes Tryz.prog).any (Tryz.prog.loopsFrom ·)) : Bool) = true := by kernel_rfl
theorem fact17 : ((Rows.modelLinksRow.wideKeys == (Tryz.f4.params.toList ++ Rows.modelLinksSpec.plain.varTypes Tryz.prog ++ Tryz.f4.resultTypes.toList).any (Tryz.prog.wideKeysFrom ·)) : Bool) = true := by kernel_rfl
theorem fact18 : (Rows.modelLinksSpec.vars.all (Tryz.prog.varReadable ·) : Bool) = true := by kernel_rfl
theorem fact19 : (Tryz.f4.resultTypes.all (fun t => Tryz.prog.readableRec t && decide (t < Tryz.prog.types.size)) : Bool) = true := by kernel_rfl
theorem fact20 : ((Rows.modelLinksRow.ifacesOut == Tryz.f4.resultTypes.toList.any (Tryz.prog.ifacesRec ·)) : Bool) = true := by kernel_rfl
theorem fact21 : ((Rows.modelLinksRow.loopsOut == Tryz.f4.resultTypes.toList.any (Tryz.prog.loopsFrom ·)) : Bool) = true := by kernel_rfl
theorem fact22 : ((Rows.modelLinksRow.plainKeys == Tryz.prog.plainKeys) : Bool) = true := by kernel_rfl
theorem fact23 : (Rows.modelLinksRow.shortTexts.isNone : Bool) = true := by kernel_rfl
theorem fact24 : (Tryz.prog.stopsHeard : Bool) = true := by kernel_rfl
theorem fact25 : (Tryz.prog.mayEnter : Bool) = true := by kernel_rfl
theorem fact26 : ((Rows.modelLinksRow.lifted == Tryz.prog.liftsFinal) : Bool) = true := by kernel_rfl
theorem fact27 : ((Tryz.prog.make == some Rows.modelLinksRow.make) : Bool) = true := by kernel_rfl
theorem fact29 : ((Rows.modelLinksRow.pinned == Rows.modelLinksRow.pinnedBy) : Bool) = true := by kernel_rfl
theorem fact30 : ((Rows.modelLinksRow.veiled == (Tryz.f4.params.toList ++ Rows.modelLinksSpec.plain.varTypes Tryz.prog ++ Tryz.f4.resultTypes.toList).any (Tryz.prog.veiledRec ·)) : Bool) = true := by kernel_rfl
theorem fact31 : (Rows.modelLinksRow.veiledFits Tryz.prog Tryz.f4.params.toList (Tryz.f4.params.toList ++ Rows.modelLinksSpec.plain.varTypes Tryz.prog ++ Tryz.f4.resultTypes.toList) : Bool) = true := by kernel_rfl
theorem named_is : Tryz.pinned.checked.prog.funcNamed Rows.modelLinksRow.func = some 4 := by kernel_rfl
theorem inst_is : Tryz.f4.isInstance Tryz.prog Rows.modelLinksRow.origin Rows.modelLinksRow.targs := of_decide_eq_true (by kernel_rfl)
theorem wrap_is : Tryz.f4.isWrapper Tryz.prog Rows.modelLinksRow.wrapper Rows.modelLinksRow.mainSum := by unfold Func.isWrapper; first | (rw [if_pos (by decide +kernel)]; kernel_rfl) | (rw [if_neg (by decide +kernel)]; exact ⟨rfl, rfl⟩)
theorem wf_is : Rows.modelLinksRow.wfByText (OpenSpec.ofChange Rows.modelLinksSpec) = true := by kernel_rfl
theorem main_is : Tryz.prog.mainIs = some ((true, "b9b07308e89a745983839b1ae4d25fabc5caf3266055858fdddf0ef1519788b4").1, (true, "b9b07308e89a745983839b1ae4d25fabc5caf3266055858fdddf0ef1519788b4").2.toList) := by kernel_rfl
theorem looks_is : true = Tryz.prog.looks [] := by kernel_rfl
theorem goes_is : false = Rows.modelLinksRow.goesBy Tryz.prog := by kernel_rfl
end Go.Proofs.YtckbhajndplkiaaGreatDoor

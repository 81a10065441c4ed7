/- The closed facts of the row of ModelFds, one by one, by the kernel. No conditions. -/
import Derived.Test.YtkihpkcfneeelaaGreatDoorRows
import Derived.JoinedOf
import Derived.SevenTiedAt
import Derived.KernelRfl
namespace Go.Proofs.YtkihpkcfneeelaaGreatDoor
open Go
theorem and_true_of {a b : Bool} (h : a = true) (h' : b = true) : (a && b) = true := by rw [h, h']; rfl
theorem fact0 : (Rows.modelFdsRow.wf (OpenSpec.ofChange Rows.modelFdsSpec) : Bool) = true := by kernel_rfl
theorem fact1 : (laidOutB Tryz.prog : Bool) = true := by kernel_rfl
theorem fact2 : (mapsRowed Tryz.prog : Bool) = true := by kernel_rfl
theorem fact3 : (Tryz.f7.params.all (Tryz.prog.readableRec ·) : Bool) = true := by kernel_rfl
theorem fact4 : (namedTie Tryz.prog Rows.modelFdsRow.named Rows.modelFdsSpec.vars : Bool) = true := by kernel_rfl
theorem fact5 : ((Rows.modelFdsRow.stops == []) : Bool) = true := by kernel_rfl
theorem fact6 : ((Tryz.prog.stops == []) : Bool) = true := by kernel_rfl
theorem fact7 : ((Rows.modelFdsRow.knobs == []) : Bool) = true := by kernel_rfl
theorem fact8 : ((Tryz.prog.stopKnobs == []) : Bool) = true := by kernel_rfl
theorem fact9 : ((Rows.modelFdsRow.inPlace == Tryz.prog.inPlace 7) : Bool) = true := by kernel_rfl
theorem fact10 : ((Rows.modelFdsRow.unfollowed == Tryz.prog.unfollowed 7) : Bool) = true := by kernel_rfl
theorem fact11 : ((Rows.modelFdsRow.recurses == Tryz.prog.recurses 7) : Bool) = true := by kernel_rfl
theorem fact12 : ((Rows.modelFdsRow.named == Tryz.prog.varsNamed 7) : Bool) = true := by kernel_rfl
theorem fact13 : ((Rows.modelFdsRow.maps == (Tryz.f7.params.toList ++ Rows.modelFdsSpec.plain.varTypes Tryz.prog).any (Tryz.prog.mapsRec ·)) : Bool) = true := by kernel_rfl
theorem fact14 : ((Rows.modelFdsRow.ifaces == (Tryz.f7.params.toList ++ Rows.modelFdsSpec.plain.varTypes Tryz.prog).any (Tryz.prog.ifacesRec ·)) : Bool) = true := by kernel_rfl
theorem fact15 : ((Rows.modelFdsRow.mapsOut == Tryz.prog.mapsAmong Tryz.f7.resultTypes.toList) : Bool) = true := by kernel_rfl
theorem fact16 : ((Rows.modelFdsRow.loops == (Tryz.f7.params.toList ++ Rows.modelFdsSpec.plain.varTypes Tryz.prog).any (Tryz.prog.loopsFrom ·)) : Bool) = true := by kernel_rfl
theorem fact17 : ((Rows.modelFdsRow.wideKeys == (Tryz.f7.params.toList ++ Rows.modelFdsSpec.plain.varTypes Tryz.prog ++ Tryz.f7.resultTypes.toList).any (Tryz.prog.wideKeysFrom ·)) : Bool) = true := by kernel_rfl
theorem fact18 : (Rows.modelFdsSpec.vars.all (Tryz.prog.varReadable ·) : Bool) = true := by kernel_rfl
theorem fact19 : (Tryz.f7.resultTypes.all (fun t => Tryz.prog.readableRec t && decide (t < Tryz.prog.types.size)) : Bool) = true := by kernel_rfl
theorem fact20 : ((Rows.modelFdsRow.ifacesOut == Tryz.f7.resultTypes.toList.any (Tryz.prog.ifacesRec ·)) : Bool) = true := by kernel_rfl
theorem fact21 : ((Rows.modelFdsRow.loopsOut == Tryz.f7.resultTypes.toList.any (Tryz.prog.loopsFrom ·)) : Bool) = true := by kernel_rfl
theorem fact22 : ((Rows.modelFdsRow.plainKeys == Tryz.prog.plainKeys) : Bool) = true := by kernel_rfl
theorem fact23 : (Rows.modelFdsRow.shortTexts.isNone : Bool) = true := by kernel_rfl
theorem fact24 : (Tryz.prog.stopsHeard : Bool) = true := by kernel_rfl
theorem fact25 : (Tryz.prog.mayEnter : Bool) = true := by kernel_rfl
theorem fact26 : ((Rows.modelFdsRow.lifted == Tryz.prog.liftsFinal) : Bool) = true := by kernel_rfl
theorem fact27 : ((Tryz.prog.make == some Rows.modelFdsRow.make) : Bool) = true := by kernel_rfl
theorem fact29 : ((Rows.modelFdsRow.pinned == Rows.modelFdsRow.pinnedBy) : Bool) = true := by kernel_rfl
theorem fact30 : ((Rows.modelFdsRow.veiled == (Tryz.f7.params.toList ++ Rows.modelFdsSpec.plain.varTypes Tryz.prog ++ Tryz.f7.resultTypes.toList).any (Tryz.prog.veiledRec ·)) : Bool) = true := by kernel_rfl
theorem fact31 : (Rows.modelFdsRow.veiledFits Tryz.prog Tryz.f7.params.toList (Tryz.f7.params.toList ++ Rows.modelFdsSpec.plain.varTypes Tryz.prog ++ Tryz.f7.resultTypes.toList) : Bool) = true := by kernel_rfl
theorem named_is : Tryz.pinned.checked.prog.funcNamed Rows.modelFdsRow.func = some 7 := by kernel_rfl
theorem inst_is : Tryz.f7.isInstance Tryz.prog Rows.modelFdsRow.origin Rows.modelFdsRow.targs := of_decide_eq_true (by kernel_rfl)
theorem wrap_is : Tryz.f7.isWrapper Tryz.prog Rows.modelFdsRow.wrapper Rows.modelFdsRow.mainSum := by unfold Func.isWrapper; first | (rw [if_pos (by decide +kernel)]; kernel_rfl) | (rw [if_neg (by decide +kernel)]; exact ⟨rfl, rfl⟩)
theorem wf_is : Rows.modelFdsRow.wfByText (OpenSpec.ofChange Rows.modelFdsSpec) = true := by kernel_rfl
theorem main_is : Tryz.prog.mainIs = some ((true, "c6a67793781fe574a0ccf86910083b96ae7001fd380837d5fd6c339dcb36cbf6").1, (true, "c6a67793781fe574a0ccf86910083b96ae7001fd380837d5fd6c339dcb36cbf6").2.toList) := by kernel_rfl
theorem looks_is : true = Tryz.prog.looks [] := by kernel_rfl
theorem goes_is : false = Rows.modelFdsRow.goesBy Tryz.prog := by kernel_rfl
end Go.Proofs.YtkihpkcfneeelaaGreatDoor

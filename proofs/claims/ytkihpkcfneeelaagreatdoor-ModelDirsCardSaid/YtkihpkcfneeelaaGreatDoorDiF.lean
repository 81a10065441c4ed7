/- The closed facts of the row of ModelDirs, one by one, by the kernel. No conditions. -/
import Derived.Test.YtkihpkcfneeelaaGreatDoorRows
import Derived.JoinedOf
import Derived.SevenTiedAt
import Derived.KernelRfl
namespace Go.Proofs.YtkihpkcfneeelaaGreatDoor
open Go
theorem and_true_of {a b : Bool} (h : a = true) (h' : b = true) : (a && b) = true := by rw [h, h']; rfl
theorem fact0 : (Rows.modelDirsRow.wf (OpenSpec.ofChange Rows.modelDirsSpec) : Bool) = true := by kernel_rfl
theorem fact1 : (laidOutB Tryz.prog : Bool) = true := by kernel_rfl
theorem fact2 : (mapsRowed Tryz.prog : Bool) = true := by kernel_rfl
theorem fact3 : (Tryz.f5.params.all (Tryz.prog.readableRec ·) : Bool) = true := by kernel_rfl
theorem fact4 : (namedTie Tryz.prog Rows.modelDirsRow.named Rows.modelDirsSpec.vars : Bool) = true := by kernel_rfl
theorem fact5 : ((Rows.modelDirsRow.stops == []) : Bool) = true := by kernel_rfl
theorem fact6 : ((Tryz.prog.stops == []) : Bool) = true := by kernel_rfl
theorem fact7 : ((Rows.modelDirsRow.knobs == []) : Bool) = true := by kernel_rfl
theorem fact8 : ((Tryz.prog.stopKnobs == []) : Bool) = true := by kernel_rfl
theorem fact9 : ((Rows.modelDirsRow.inPlace == Tryz.prog.inPlace 5) : Bool) = true := by kernel_rfl
theorem fact10 : ((Rows.modelDirsRow.unfollowed == Tryz.prog.unfollowed 5) : Bool) = true := by kernel_rfl
theorem fact11 : ((Rows.modelDirsRow.recurses == Tryz.prog.recurses 5) : Bool) = true := by kernel_rfl
theorem fact12 : ((Rows.modelDirsRow.named == Tryz.prog.varsNamed 5) : Bool) = true := by kernel_rfl
theorem fact13 : ((Rows.modelDirsRow.maps == (Tryz.f5.params.toList ++ Rows.modelDirsSpec.plain.varTypes Tryz.prog).any (Tryz.prog.mapsRec ·)) : Bool) = true := by kernel_rfl
theorem fact14 : ((Rows.modelDirsRow.ifaces == (Tryz.f5.params.toList ++ Rows.modelDirsSpec.plain.varTypes Tryz.prog).any (Tryz.prog.ifacesRec ·)) : Bool) = true := by kernel_rfl
theorem fact15 : ((Rows.modelDirsRow.mapsOut == Tryz.prog.mapsAmong Tryz.f5.resultTypes.toList) : Bool) = true := by kernel_rfl
theorem fact16 : ((Rows.modelDirsRow.loops == (Tryz.f5.params.toList ++ Rows.modelDirsSpec.plain.varTypes Tryz.prog).any (Tryz.prog.loopsFrom ·)) : Bool) = true := by kernel_rfl
theorem fact17 : ((Rows.modelDirsRow.wideKeys == (Tryz.f5.params.toList ++ Rows.modelDirsSpec.plain.varTypes Tryz.prog ++ Tryz.f5.resultTypes.toList).any (Tryz.prog.wideKeysFrom ·)) : Bool) = true := by kernel_rfl
theorem fact18 : (Rows.modelDirsSpec.vars.all (Tryz.prog.varReadable ·) : Bool) = true := by kernel_rfl
theorem fact19 : (Tryz.f5.resultTypes.all (fun t => Tryz.prog.readableRec t && decide (t < Tryz.prog.types.size)) : Bool) = true := by kernel_rfl
theorem fact20 : ((Rows.modelDirsRow.ifacesOut == Tryz.f5.resultTypes.toList.any (Tryz.prog.ifacesRec ·)) : Bool) = true := by kernel_rfl
theorem fact21 : ((Rows.modelDirsRow.loopsOut == Tryz.f5.resultTypes.toList.any (Tryz.prog.loopsFrom ·)) : Bool) = true := by kernel_rfl
theorem fact22 : ((Rows.modelDirsRow.plainKeys == Tryz.prog.plainKeys) : Bool) = true := by kernel_rfl
theorem fact23 : (Rows.modelDirsRow.shortTexts.isNone : Bool) = true := by kernel_rfl
theorem fact24 : (Tryz.prog.stopsHeard : Bool) = true := by kernel_rfl
theorem fact25 : (Tryz.prog.mayEnter : Bool) = true := by kernel_rfl
theorem fact26 : ((Rows.modelDirsRow.lifted == Tryz.prog.liftsFinal) : Bool) = true := by kernel_rfl
theorem fact27 : ((Tryz.prog.make == some Rows.modelDirsRow.make) : Bool) = true := by kernel_rfl
theorem fact29 : ((Rows.modelDirsRow.pinned == Rows.modelDirsRow.pinnedBy) : Bool) = true := by kernel_rfl
theorem fact30 : ((Rows.modelDirsRow.veiled == (Tryz.f5.params.toList ++ Rows.modelDirsSpec.plain.varTypes Tryz.prog ++ Tryz.f5.resultTypes.toList).any (Tryz.prog.veiledRec ·)) : Bool) = true := by kernel_rfl
theorem fact31 : (Rows.modelDirsRow.veiledFits Tryz.prog Tryz.f5.params.toList (Tryz.f5.params.toList ++ Rows.modelDirsSpec.plain.varTypes Tryz.prog ++ Tryz.f5.resultTypes.toList) : Bool) = true := by kernel_rfl
theorem named_is : Tryz.pinned.checked.prog.funcNamed Rows.modelDirsRow.func = some 5 := by kernel_rfl
theorem inst_is : Tryz.f5.isInstance Tryz.prog Rows.modelDirsRow.origin Rows.modelDirsRow.targs := of_decide_eq_true (by kernel_rfl)
theorem wrap_is : Tryz.f5.isWrapper Tryz.prog Rows.modelDirsRow.wrapper Rows.modelDirsRow.mainSum := by unfold Func.isWrapper; first | (rw [if_pos (by decide +kernel)]; kernel_rfl) | (rw [if_neg (by decide +kernel)]; exact ⟨rfl, rfl⟩)
theorem wf_is : Rows.modelDirsRow.wfByText (OpenSpec.ofChange Rows.modelDirsSpec) = true := by kernel_rfl
theorem main_is : Tryz.prog.mainIs = some ((true, "c6a67793781fe574a0ccf86910083b96ae7001fd380837d5fd6c339dcb36cbf6").1, (true, "c6a67793781fe574a0ccf86910083b96ae7001fd380837d5fd6c339dcb36cbf6").2.toList) := by kernel_rfl
theorem looks_is : true = Tryz.prog.looks [] := by kernel_rfl
theorem goes_is : false = Rows.modelDirsRow.goesBy Tryz.prog := by kernel_rfl
end Go.Proofs.YtkihpkcfneeelaaGreatDoor

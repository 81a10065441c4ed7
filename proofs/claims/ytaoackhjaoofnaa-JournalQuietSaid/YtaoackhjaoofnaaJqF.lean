/- The closed facts of the row of JournalQuiet, one by one, by the kernel. No conditions. -/
import Derived.Test.YtaoackhjaoofnaaRows
import Derived.JoinedOf
import Derived.SevenTiedAt
import Derived.KernelRfl
namespace Go.Proofs.Ytaoackhjaoofnaa
open Go
theorem and_true_of {a b : Bool} (h : a = true) (h' : b = true) : (a && b) = true := by rw [h, h']; rfl
theorem fact0 : (Rows.journalQuietRow.wf (OpenSpec.ofChange Rows.journalQuietSpec) : Bool) = true := by kernel_rfl
theorem fact1 : (laidOutB Try.prog : Bool) = true := by kernel_rfl
theorem fact2 : (mapsRowed Try.prog : Bool) = true := by kernel_rfl
theorem fact3 : (Try.f3.params.all (Try.prog.readableRec ·) : Bool) = true := by kernel_rfl
theorem fact4 : (namedTie Try.prog Rows.journalQuietRow.named Rows.journalQuietSpec.vars : Bool) = true := by kernel_rfl
theorem fact5 : ((Rows.journalQuietRow.stops == []) : Bool) = true := by kernel_rfl
theorem fact6 : ((Try.prog.stops == []) : Bool) = true := by kernel_rfl
theorem fact7 : ((Rows.journalQuietRow.knobs == []) : Bool) = true := by kernel_rfl
theorem fact8 : ((Try.prog.stopKnobs == []) : Bool) = true := by kernel_rfl
theorem fact9 : ((Rows.journalQuietRow.inPlace == Try.prog.inPlace 3) : Bool) = true := by kernel_rfl
theorem fact10 : ((Rows.journalQuietRow.unfollowed == Try.prog.unfollowed 3) : Bool) = true := by kernel_rfl
theorem fact11 : ((Rows.journalQuietRow.recurses == Try.prog.recurses 3) : Bool) = true := by kernel_rfl
theorem fact12 : ((Rows.journalQuietRow.named == Try.prog.varsNamed 3) : Bool) = true := by kernel_rfl
theorem fact13 : ((Rows.journalQuietRow.maps == (Try.f3.params.toList ++ Rows.journalQuietSpec.plain.varTypes Try.prog).any (Try.prog.mapsRec ·)) : Bool) = true := by kernel_rfl
theorem fact14 : ((Rows.journalQuietRow.ifaces == (Try.f3.params.toList ++ Rows.journalQuietSpec.plain.varTypes Try.prog).any (Try.prog.ifacesRec ·)) : Bool) = true := by kernel_rfl
theorem fact15 : ((Rows.journalQuietRow.mapsOut == Try.prog.mapsAmong Try.f3.resultTypes.toList) : Bool) = true := by kernel_rfl
theorem fact16 : ((Rows.journalQuietRow.loops == (Try.f3.params.toList ++ Rows.journalQuietSpec.plain.varTypes Try.prog).any (Try.prog.loopsFrom ·)) : Bool) = true := by kernel_rfl
theorem fact17 : ((Rows.journalQuietRow.wideKeys == (Try.f3.params.toList ++ Rows.journalQuietSpec.plain.varTypes Try.prog ++ Try.f3.resultTypes.toList).any (Try.prog.wideKeysFrom ·)) : Bool) = true := by kernel_rfl
theorem fact18 : (Rows.journalQuietSpec.vars.all (Try.prog.varReadable ·) : Bool) = true := by kernel_rfl
theorem fact19 : (Try.f3.resultTypes.all (fun t => Try.prog.readableRec t && decide (t < Try.prog.types.size)) : Bool) = true := by kernel_rfl
theorem fact20 : ((Rows.journalQuietRow.ifacesOut == Try.f3.resultTypes.toList.any (Try.prog.ifacesRec ·)) : Bool) = true := by kernel_rfl
theorem fact21 : ((Rows.journalQuietRow.loopsOut == Try.f3.resultTypes.toList.any (Try.prog.loopsFrom ·)) : Bool) = true := by kernel_rfl
theorem fact22 : ((Rows.journalQuietRow.plainKeys == Try.prog.plainKeys) : Bool) = true := by kernel_rfl
theorem fact23 : (Rows.journalQuietRow.shortTexts.isNone : Bool) = true := by kernel_rfl
theorem fact24 : (Try.prog.stopsHeard : Bool) = true := by kernel_rfl
theorem fact25 : (Try.prog.mayEnter : Bool) = true := by kernel_rfl
theorem fact26 : ((Rows.journalQuietRow.lifted == Try.prog.liftsFinal) : Bool) = true := by kernel_rfl
theorem fact27 : ((Try.prog.make == some Rows.journalQuietRow.make) : Bool) = true := by kernel_rfl
theorem fact29 : ((Rows.journalQuietRow.pinned == Rows.journalQuietRow.pinnedBy) : Bool) = true := by kernel_rfl
theorem fact30 : ((Rows.journalQuietRow.veiled == (Try.f3.params.toList ++ Rows.journalQuietSpec.plain.varTypes Try.prog ++ Try.f3.resultTypes.toList).any (Try.prog.veiledRec ·)) : Bool) = true := by kernel_rfl
theorem fact31 : (Rows.journalQuietRow.veiledFits Try.prog Try.f3.params.toList (Try.f3.params.toList ++ Rows.journalQuietSpec.plain.varTypes Try.prog ++ Try.f3.resultTypes.toList) : Bool) = true := by kernel_rfl
theorem named_is : Try.pinned.checked.prog.funcNamed Rows.journalQuietRow.func = some 3 := by kernel_rfl
theorem inst_is : Try.f3.isInstance Try.prog Rows.journalQuietRow.origin Rows.journalQuietRow.targs := of_decide_eq_true (by kernel_rfl)
theorem wrap_is : Try.f3.isWrapper Try.prog Rows.journalQuietRow.wrapper Rows.journalQuietRow.mainSum := by unfold Func.isWrapper; first | (rw [if_pos (by decide +kernel)]; kernel_rfl) | (rw [if_neg (by decide +kernel)]; exact ⟨rfl, rfl⟩)
end Go.Proofs.Ytaoackhjaoofnaa

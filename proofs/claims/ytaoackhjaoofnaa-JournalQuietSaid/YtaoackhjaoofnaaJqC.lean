/- JournalQuiet: what is staged is read and is not written home by a Commit of nothing; Drop forgets: the row, out of the contract and the closed facts. Conditions: none beyond the given row. -/
import Derived.Test.YtaoackhjaoofnaaJqP
import Derived.Test.YtaoackhjaoofnaaJqF
namespace Go.Proofs.Ytaoackhjaoofnaa
open Go.ChangeShapes Go.WideShapes Go.ChangeAt Go.RowKit Go.VM
theorem closed : joinedFacts Try.prog 3 Try.f3 Rows.journalQuietSpec Rows.journalQuietRow = true := by
  unfold joinedFacts
  exact (and_true_of (and_true_of (and_true_of (and_true_of (and_true_of (and_true_of (and_true_of (and_true_of (and_true_of (and_true_of (and_true_of (and_true_of (and_true_of (and_true_of (and_true_of (and_true_of (and_true_of (and_true_of (and_true_of (and_true_of (and_true_of (and_true_of (and_true_of (and_true_of (and_true_of (and_true_of (and_true_of (and_true_of (and_true_of (and_true_of (and_true_of fact0 fact1) fact2) fact3) fact4) fact5) fact6) fact7) fact8) fact9) fact10) fact11) fact12) fact13) fact14) fact15) fact16) fact17) fact18) fact19) fact20) fact21) fact22) fact23) fact24) fact25) fact26) fact27) (by kernel_rfl)) fact29) fact30) fact31)
theorem row_holds : Rows.JournalQuietSaid :=
  OpenClaim.holds_of_wide 3 Try.f3 rfl rfl rfl rfl rfl rfl rfl ⟨rfl, rfl, rfl, rfl, rfl⟩ rfl rfl rfl rfl rfl named_is Try.func3 closed
    inst_is wrap_is (fun os started H enc _ => lifted os started H enc)
#print axioms row_holds
end Go.Proofs.Ytaoackhjaoofnaa

/- JournalFull: a group of staged blocks is written home whole or not at all, wherever the power goes off: the row, out of the contract and the closed facts. Conditions: none beyond the given row. -/
import Derived.Test.YtjcdcdhddpmgiaaJfP
import Derived.Test.YtjcdcdhddpmgiaaJfF
namespace Go.Proofs.Ytjcdcdhddpmgiaa
open Go.ChangeShapes Go.WideShapes Go.ChangeAt Go.RowKit Go.VM
theorem closed : joinedFacts Try.prog 3 Try.f3 Rows.journalFullSpec Rows.journalFullRow = true := by
  unfold joinedFacts
  exact (and_true_of (and_true_of (and_true_of (and_true_of (and_true_of (and_true_of (and_true_of (and_true_of (and_true_of (and_true_of (and_true_of (and_true_of (and_true_of (and_true_of (and_true_of (and_true_of (and_true_of (and_true_of (and_true_of (and_true_of (and_true_of (and_true_of (and_true_of (and_true_of (and_true_of (and_true_of (and_true_of (and_true_of (and_true_of (and_true_of (and_true_of fact0 fact1) fact2) fact3) fact4) fact5) fact6) fact7) fact8) fact9) fact10) fact11) fact12) fact13) fact14) fact15) fact16) fact17) fact18) fact19) fact20) fact21) fact22) fact23) fact24) fact25) fact26) fact27) (by kernel_rfl)) fact29) fact30) fact31)
theorem row_holds : Rows.JournalFullSaid :=
  OpenClaim.holds_of_wide 3 Try.f3 rfl rfl rfl rfl rfl rfl rfl ⟨rfl, rfl, rfl, rfl, rfl⟩ rfl rfl rfl rfl rfl named_is Try.func3 closed
    inst_is wrap_is (fun os started H enc _ => lifted os started H enc)
#print axioms row_holds
end Go.Proofs.Ytjcdcdhddpmgiaa

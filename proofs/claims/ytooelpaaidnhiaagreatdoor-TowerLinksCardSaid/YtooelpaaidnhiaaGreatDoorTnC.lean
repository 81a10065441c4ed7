/- TowerLinks: the row and the tied card, out of the contract and the closed facts. Conditions: those of the given row (the listed variables read as listed, which the card ties to the program's text). -/
import Derived.Test.YtooelpaaidnhiaaGreatDoorTnP
import Derived.Test.YtooelpaaidnhiaaGreatDoorTnF
import Derived.Test.YtooelpaaidnhiaaGreatDoorTnT
import Derived.Test.YtooelpaaidnhiaaGreatDoorCards
namespace Go.Proofs.YtooelpaaidnhiaaGreatDoor
open Go.ChangeShapes Go.WideShapes Go.ChangeAt Go.RowKit Go.VM
theorem closed : joinedFacts Tryz.prog 3 Tryz.f3 Rows.towerLinksSpec Rows.towerLinksRow = true := by
  unfold joinedFacts
  exact (and_true_of (and_true_of (and_true_of (and_true_of (and_true_of (and_true_of (and_true_of (and_true_of (and_true_of (and_true_of (and_true_of (and_true_of (and_true_of (and_true_of (and_true_of (and_true_of (and_true_of (and_true_of (and_true_of (and_true_of (and_true_of (and_true_of (and_true_of (and_true_of (and_true_of (and_true_of (and_true_of (and_true_of (and_true_of (and_true_of (and_true_of fact0 fact1) fact2) fact3) fact4) fact5) fact6) fact7) fact8) fact9) fact10) fact11) fact12) fact13) fact14) fact15) fact16) fact17) fact18) fact19) fact20) fact21) fact22) fact23) fact24) fact25) fact26) fact27) (by kernel_rfl)) fact29) fact30) fact31)
theorem want_3 : Tryz.pinned.checked.prog.wantsStandIn 3 = false := by kernel_rfl
theorem row_holds : Rows.TowerLinksSaid :=
  OpenClaim.holds_of_wide 3 Tryz.f3 rfl rfl rfl rfl rfl rfl rfl ⟨rfl, rfl, rfl, rfl, rfl⟩ rfl rfl rfl rfl rfl named_is Tryz.func3 closed
    inst_is wrap_is (fun os started H enc _ => lifted os started H enc)
/-- the statement -/
theorem card_holds : Rows.TowerLinksCardSaid :=
  Claim7.holds_tied_plain_at .later [] [.pinned, .data, .data, .listed] true (true, "bd1e73ec41a18e978c2b862b035304b0af70772a479a0f0f465bb16f15d71c2c") true
    row_holds (fun _ h => by cases h) wf_is (fun _ h => by cases h) towerLinks_row_tie rfl ⟨rfl, rfl⟩ main_is rfl
    (fun f fn hf hfn => by
      obtain rfl : f = 3 := Option.some.inj (named_is.symm.trans hf) |>.symm
      obtain rfl : fn = Tryz.f3 := (Option.some.inj (Tryz.func3.symm.trans hfn)).symm
      exact ⟨looks_is, fun j t ht => by
        rw [← Array.getElem?_toList, Tryz.params3] at ht
        match j, ht with
        | 0, ht => obtain rfl := Option.some.inj ht; exact want_3
        | 1, ht => obtain rfl := Option.some.inj ht; exact want_3
        | n + 2, ht => simp at ht⟩)
    goes_is
#print axioms card_holds
end Go.Proofs.YtooelpaaidnhiaaGreatDoor

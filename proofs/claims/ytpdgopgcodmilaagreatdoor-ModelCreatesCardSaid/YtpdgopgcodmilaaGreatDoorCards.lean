/-
  DERIVED. GIVEN WITH THE SEED: THE CARDS: each row of YtpdgopgcodmilaaGreatDoorRows.lean that lists a variable, with what it lists TIED to the program's text (the seventh form; the later family's looks); each row that meets fmt, with fmt's text TOLD by the authors' own Lean function (tested against real Go, not proved from fmt's source: count such statements apart). THE CARD IS WHAT COUNTS. Prove the row's statement (the work); the ties are given (YtpdgopgcodmilaaGreatDoorTie.lean); close each card by the builder's one call (the guide's Derived/Test/ToyasCard.lean, 'card_holds'). Laid BY PROGRAM, IN A SANDBOX (cutbox-door.mjs). By AI agents, Wed Nov 11 2026. No macro, syntax, notation, axiom, sorry.
-/
import Derived.Test.YtpdgopgcodmilaaGreatDoorRows
import GoSem.ClaimSeven
namespace Go.Proofs.YtpdgopgcodmilaaGreatDoor
namespace Rows

/-- THE TIED CARD OF 'oriellaw25.ModelCreates'. -/
def modelCreatesCard : Claim7 := { stood := { row := modelCreatesRow, standIns := [], harness := (true, "fcee093d127f531a1928a88c5bd5a0b3d06919c5270a0e8a8cd9066dbae01c27"), looks := true }, kinds := [], alts := [], laidByText := true, laidKinds := [.data, .listed, .data, .pinned], laidTests := true, laidLooks := .later }
def ModelCreatesCardSaid : Prop := Claim7.holds Tryz.pinned (.plain (OpenSpec.ofChange modelCreatesSpec)) modelCreatesCard

/-- THE SECOND FORM's CARD OF 'oriellaw25.ModelCreates'. -/
def modelCreatesUptoCard : Claim7 := { stood := { row := modelCreatesUptoRow, standIns := [], harness := (true, "fcee093d127f531a1928a88c5bd5a0b3d06919c5270a0e8a8cd9066dbae01c27"), looks := true }, kinds := [], alts := [], laidByText := true, laidKinds := [.data, .listed, .data, .pinned], laidTests := true, laidLooks := .later }
def ModelCreatesUptoCardSaid : Prop := Claim7.holds Tryz.pinned (.plain (OpenSpec.upto modelCreatesSpec)) modelCreatesUptoCard
end Rows
end Go.Proofs.YtpdgopgcodmilaaGreatDoor

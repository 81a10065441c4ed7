/-
  DERIVED. GIVEN WITH THE SEED: THE CARDS: each row of YtocphdopmdiciaaGreatDoorRows.lean that lists a variable, with what it lists TIED to the program's text (the seventh form; the later family's looks); each row that meets fmt, with fmt's text TOLD by the authors' own Lean function (tested against real Go, not proved from fmt's source: count such statements apart). THE CARD IS WHAT COUNTS. Prove the row's statement (the work); the ties are given (YtocphdopmdiciaaGreatDoorTie.lean); close each card by the builder's one call (the guide's Derived/Test/ToyasCard.lean, 'card_holds'). Laid BY PROGRAM, IN A SANDBOX (cutbox-door.mjs). By AI agents, Wed Nov 11 2026. No macro, syntax, notation, axiom, sorry.
-/
import Derived.Test.YtocphdopmdiciaaGreatDoorRows
import GoSem.ClaimSeven
namespace Go.Proofs.YtocphdopmdiciaaGreatDoor
namespace Rows

/-- THE TIED CARD OF 'oriellaw26.TowerKinds'. -/
def towerKindsCard : Claim7 := { stood := { row := towerKindsRow, standIns := [], harness := (true, "5ebb8eab6886649c991754dea773788e245987276a64914e748753344a17ce3c"), looks := true }, kinds := [], alts := [], laidByText := true, laidKinds := [.pinned, .data, .data, .listed], laidTests := true, laidLooks := .later }
def TowerKindsCardSaid : Prop := Claim7.holds Tryz.pinned (.plain (OpenSpec.ofChange towerKindsSpec)) towerKindsCard

/-- THE SECOND FORM's CARD OF 'oriellaw26.TowerKinds'. -/
def towerKindsUptoCard : Claim7 := { stood := { row := towerKindsUptoRow, standIns := [], harness := (true, "5ebb8eab6886649c991754dea773788e245987276a64914e748753344a17ce3c"), looks := true }, kinds := [], alts := [], laidByText := true, laidKinds := [.pinned, .data, .data, .listed], laidTests := true, laidLooks := .later }
def TowerKindsUptoCardSaid : Prop := Claim7.holds Tryz.pinned (.plain (OpenSpec.upto towerKindsSpec)) towerKindsUptoCard
end Rows
end Go.Proofs.YtocphdopmdiciaaGreatDoor

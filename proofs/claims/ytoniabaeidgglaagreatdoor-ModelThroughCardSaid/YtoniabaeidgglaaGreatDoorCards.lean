/-
  DERIVED. GIVEN WITH THE SEED: THE CARDS: each row of YtoniabaeidgglaaGreatDoorRows.lean that lists a variable, with what it lists TIED to the program's text (the seventh form; the later family's looks); each row that meets fmt, with fmt's text TOLD by the authors' own Lean function (tested against real Go, not proved from fmt's source: count such statements apart). THE CARD IS WHAT COUNTS. Prove the row's statement (the work); the ties are given (YtoniabaeidgglaaGreatDoorTie.lean); close each card by the builder's one call (the guide's Derived/Test/ToyasCard.lean, 'card_holds'). Laid BY PROGRAM, IN A SANDBOX (cutbox-door.mjs). By AI agents, Wed Nov 11 2026. No macro, syntax, notation, axiom, sorry.
-/
import Derived.Test.YtoniabaeidgglaaGreatDoorRows
import GoSem.ClaimSeven
namespace Go.Proofs.YtoniabaeidgglaaGreatDoor
namespace Rows

/-- THE TIED CARD OF 'oriellaw25.ModelThrough'. -/
def modelThroughCard : Claim7 := { stood := { row := modelThroughRow, standIns := [], harness := (true, "b25f04d4d80861df8ba6eba75b83021af2527c1f66a10fc498dc1da9275de67e"), looks := true }, kinds := [], alts := [], laidByText := true, laidKinds := [.data, .listed, .data, .pinned], laidTests := true, laidLooks := .later }
def ModelThroughCardSaid : Prop := Claim7.holds Tryz.pinned (.plain (OpenSpec.ofChange modelThroughSpec)) modelThroughCard

/-- THE SECOND FORM's CARD OF 'oriellaw25.ModelThrough'. -/
def modelThroughUptoCard : Claim7 := { stood := { row := modelThroughUptoRow, standIns := [], harness := (true, "b25f04d4d80861df8ba6eba75b83021af2527c1f66a10fc498dc1da9275de67e"), looks := true }, kinds := [], alts := [], laidByText := true, laidKinds := [.data, .listed, .data, .pinned], laidTests := true, laidLooks := .later }
def ModelThroughUptoCardSaid : Prop := Claim7.holds Tryz.pinned (.plain (OpenSpec.upto modelThroughSpec)) modelThroughUptoCard
end Rows
end Go.Proofs.YtoniabaeidgglaaGreatDoor

/-
  DERIVED. GIVEN WITH THE SEED: THE CARDS: each row of YtokndgaghbjgfaaGreatDoorRows.lean that lists a variable, with what it lists TIED to the program's text (the seventh form; the later family's looks); each row that meets fmt, with fmt's text TOLD by the authors' own Lean function (tested against real Go, not proved from fmt's source: count such statements apart). THE CARD IS WHAT COUNTS. Prove the row's statement (the work); the ties are given (YtokndgaghbjgfaaGreatDoorTie.lean); close each card by the builder's one call (the guide's Derived/Test/ToyasCard.lean, 'card_holds'). Laid BY PROGRAM, IN A SANDBOX (cutbox-door.mjs). By AI agents, Wed Nov 11 2026. No macro, syntax, notation, axiom, sorry.
-/
import Derived.Test.YtokndgaghbjgfaaGreatDoorRows
import GoSem.ClaimSeven
namespace Go.Proofs.YtokndgaghbjgfaaGreatDoor
namespace Rows

/-- THE TIED CARD OF 'oriellaw25.ModelKinds'. -/
def modelKindsCard : Claim7 := { stood := { row := modelKindsRow, standIns := [], harness := (true, "aa8f1e2af71e610178eec8e6990aa8cea074e4143300743aab3c5517024b6bc8"), looks := true }, kinds := [], alts := [], laidByText := true, laidKinds := [.data, .listed, .data, .pinned], laidTests := true, laidLooks := .later }
def ModelKindsCardSaid : Prop := Claim7.holds Tryz.pinned (.plain (OpenSpec.ofChange modelKindsSpec)) modelKindsCard

/-- THE SECOND FORM's CARD OF 'oriellaw25.ModelKinds'. -/
def modelKindsUptoCard : Claim7 := { stood := { row := modelKindsUptoRow, standIns := [], harness := (true, "aa8f1e2af71e610178eec8e6990aa8cea074e4143300743aab3c5517024b6bc8"), looks := true }, kinds := [], alts := [], laidByText := true, laidKinds := [.data, .listed, .data, .pinned], laidTests := true, laidLooks := .later }
def ModelKindsUptoCardSaid : Prop := Claim7.holds Tryz.pinned (.plain (OpenSpec.upto modelKindsSpec)) modelKindsUptoCard
end Rows
end Go.Proofs.YtokndgaghbjgfaaGreatDoor

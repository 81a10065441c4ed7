/-
  DERIVED. GIVEN WITH THE SEED: THE CARDS: each row of YtlihfgobifchiaaGreatDoorRows.lean that lists a variable, with what it lists TIED to the program's text (the seventh form; the later family's looks); each row that meets fmt, with fmt's text TOLD by the authors' own Lean function (tested against real Go, not proved from fmt's source: count such statements apart). THE CARD IS WHAT COUNTS. Prove the row's statement (the work); the ties are given (YtlihfgobifchiaaGreatDoorTie.lean); close each card by the builder's one call (the guide's Derived/Test/ToyasCard.lean, 'card_holds'). Laid BY PROGRAM, IN A SANDBOX (cutbox-door.mjs). By AI agents, Wed Nov 11 2026. No macro, syntax, notation, axiom, sorry.
-/
import Derived.Test.YtlihfgobifchiaaGreatDoorRows
import GoSem.ClaimSeven
namespace Go.Proofs.YtlihfgobifchiaaGreatDoor
namespace Rows

/-- THE TIED CARD OF 'oriellaw27.ConsoleTells'. -/
def consoleTellsCard : Claim7 := { stood := { row := consoleTellsRow, standIns := [], harness := (true, "ddf922933d8bbfea46c90e18cd26d6f61c3fe5adf468317da591e707b8ca661d"), looks := true }, kinds := [], alts := [], laidByText := true, laidKinds := [.data, .listed, .data, .pinned], laidTests := true, laidLooks := .later }
def ConsoleTellsCardSaid : Prop := Claim7.holds Tryz.pinned (.plain (OpenSpec.ofChange consoleTellsSpec)) consoleTellsCard

/-- THE SECOND FORM's CARD OF 'oriellaw27.ConsoleTells'. -/
def consoleTellsUptoCard : Claim7 := { stood := { row := consoleTellsUptoRow, standIns := [], harness := (true, "ddf922933d8bbfea46c90e18cd26d6f61c3fe5adf468317da591e707b8ca661d"), looks := true }, kinds := [], alts := [], laidByText := true, laidKinds := [.data, .listed, .data, .pinned], laidTests := true, laidLooks := .later }
def ConsoleTellsUptoCardSaid : Prop := Claim7.holds Tryz.pinned (.plain (OpenSpec.upto consoleTellsSpec)) consoleTellsUptoCard
end Rows
end Go.Proofs.YtlihfgobifchiaaGreatDoor

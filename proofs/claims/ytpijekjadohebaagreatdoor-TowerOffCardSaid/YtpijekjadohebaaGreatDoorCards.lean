/-
  DERIVED. GIVEN WITH THE SEED: THE CARDS: each row of YtpijekjadohebaaGreatDoorRows.lean that lists a variable, with what it lists TIED to the program's text (the seventh form; the later family's looks); each row that meets fmt, with fmt's text TOLD by the authors' own Lean function (tested against real Go, not proved from fmt's source: count such statements apart). THE CARD IS WHAT COUNTS. Prove the row's statement (the work); the ties are given (YtpijekjadohebaaGreatDoorTie.lean); close each card by the builder's one call (the guide's Derived/Test/ToyasCard.lean, 'card_holds'). Laid BY PROGRAM, IN A SANDBOX (cutbox-door.mjs). By AI agents, Wed Nov 11 2026. No macro, syntax, notation, axiom, sorry.
-/
import Derived.Test.YtpijekjadohebaaGreatDoorRows
import GoSem.ClaimSeven
namespace Go.Proofs.YtpijekjadohebaaGreatDoor
namespace Rows

/-- THE TIED CARD OF 'oriellaw26.TowerShares'. -/
def towerSharesCard : Claim7 := { stood := { row := towerSharesRow, standIns := [], harness := (true, "24e97632adb063170418635dd579963c7bba5ac88c4d185991a68abdec94210b"), looks := true }, kinds := [], alts := [], laidByText := true, laidKinds := [.pinned, .data, .data, .listed], laidTests := true, laidLooks := .later }
def TowerSharesCardSaid : Prop := Claim7.holds Tryz.pinned (.plain (OpenSpec.ofChange towerSharesSpec)) towerSharesCard

/-- THE TIED CARD OF 'oriellaw26.TowerOff'. -/
def towerOffCard : Claim7 := { stood := { row := towerOffRow, standIns := [], harness := (true, "24e97632adb063170418635dd579963c7bba5ac88c4d185991a68abdec94210b"), looks := true }, kinds := [], alts := [], laidByText := true, laidKinds := [.pinned, .data, .data, .listed], laidTests := true, laidLooks := .later }
def TowerOffCardSaid : Prop := Claim7.holds Tryz.pinned (.plain (OpenSpec.ofChange towerOffSpec)) towerOffCard

/-- THE SECOND FORM's CARD OF 'oriellaw26.TowerShares'. -/
def towerSharesUptoCard : Claim7 := { stood := { row := towerSharesUptoRow, standIns := [], harness := (true, "24e97632adb063170418635dd579963c7bba5ac88c4d185991a68abdec94210b"), looks := true }, kinds := [], alts := [], laidByText := true, laidKinds := [.pinned, .data, .data, .listed], laidTests := true, laidLooks := .later }
def TowerSharesUptoCardSaid : Prop := Claim7.holds Tryz.pinned (.plain (OpenSpec.upto towerSharesSpec)) towerSharesUptoCard

/-- THE SECOND FORM's CARD OF 'oriellaw26.TowerOff'. -/
def towerOffUptoCard : Claim7 := { stood := { row := towerOffUptoRow, standIns := [], harness := (true, "24e97632adb063170418635dd579963c7bba5ac88c4d185991a68abdec94210b"), looks := true }, kinds := [], alts := [], laidByText := true, laidKinds := [.pinned, .data, .data, .listed], laidTests := true, laidLooks := .later }
def TowerOffUptoCardSaid : Prop := Claim7.holds Tryz.pinned (.plain (OpenSpec.upto towerOffSpec)) towerOffUptoCard
end Rows
end Go.Proofs.YtpijekjadohebaaGreatDoor

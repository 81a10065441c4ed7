/-
  DERIVED. GIVEN WITH THE SEED: THE CARDS: each row of YtdkbfimccddikaaGreatDoorRows.lean that lists a variable, with what it lists TIED to the program's text (the seventh form; the later family's looks); each row that meets fmt, with fmt's text TOLD by the authors' own Lean function (tested against real Go, not proved from fmt's source: count such statements apart). THE CARD IS WHAT COUNTS. Prove the row's statement (the work); the ties are given (YtdkbfimccddikaaGreatDoorTie.lean); close each card by the builder's one call (the guide's Derived/Test/ToyasCard.lean, 'card_holds'). Laid BY PROGRAM, IN A SANDBOX (cutbox-door.mjs). By AI agents, Wed Nov 11 2026. No macro, syntax, notation, axiom, sorry.
-/
import Derived.Test.YtdkbfimccddikaaGreatDoorRows
import GoSem.ClaimSeven
namespace Go.Proofs.YtdkbfimccddikaaGreatDoor
namespace Rows

/-- THE TIED CARD OF 'oriellaw26.TowerLoops'. -/
def towerLoopsCard : Claim7 := { stood := { row := towerLoopsRow, standIns := [], harness := (true, "ec7a85003f38aca5b3771ae4b71d7548527e93adfb75af6530c6e3a301ab12c8"), looks := true }, kinds := [], alts := [], laidByText := true, laidKinds := [.pinned, .data, .data, .listed], laidTests := true, laidLooks := .later }
def TowerLoopsCardSaid : Prop := Claim7.holds Tryz.pinned (.plain (OpenSpec.ofChange towerLoopsSpec)) towerLoopsCard

/-- THE TIED CARD OF 'oriellaw26.TowerDirs'. -/
def towerDirsCard : Claim7 := { stood := { row := towerDirsRow, standIns := [], harness := (true, "ec7a85003f38aca5b3771ae4b71d7548527e93adfb75af6530c6e3a301ab12c8"), looks := true }, kinds := [], alts := [], laidByText := true, laidKinds := [.pinned, .data, .data, .listed], laidTests := true, laidLooks := .later }
def TowerDirsCardSaid : Prop := Claim7.holds Tryz.pinned (.plain (OpenSpec.ofChange towerDirsSpec)) towerDirsCard

/-- THE TIED CARD OF 'oriellaw26.TowerFds'. -/
def towerFdsCard : Claim7 := { stood := { row := towerFdsRow, standIns := [], harness := (true, "ec7a85003f38aca5b3771ae4b71d7548527e93adfb75af6530c6e3a301ab12c8"), looks := true }, kinds := [], alts := [], laidByText := true, laidKinds := [.pinned, .data, .data, .listed], laidTests := true, laidLooks := .later }
def TowerFdsCardSaid : Prop := Claim7.holds Tryz.pinned (.plain (OpenSpec.ofChange towerFdsSpec)) towerFdsCard

/-- THE TIED CARD OF 'oriellaw26.TowerModes'. -/
def towerModesCard : Claim7 := { stood := { row := towerModesRow, standIns := [], harness := (true, "ec7a85003f38aca5b3771ae4b71d7548527e93adfb75af6530c6e3a301ab12c8"), looks := true }, kinds := [], alts := [], laidByText := true, laidKinds := [.pinned, .data, .data, .listed], laidTests := true, laidLooks := .later }
def TowerModesCardSaid : Prop := Claim7.holds Tryz.pinned (.plain (OpenSpec.ofChange towerModesSpec)) towerModesCard

/-- THE SECOND FORM's CARD OF 'oriellaw26.TowerLoops'. -/
def towerLoopsUptoCard : Claim7 := { stood := { row := towerLoopsUptoRow, standIns := [], harness := (true, "ec7a85003f38aca5b3771ae4b71d7548527e93adfb75af6530c6e3a301ab12c8"), looks := true }, kinds := [], alts := [], laidByText := true, laidKinds := [.pinned, .data, .data, .listed], laidTests := true, laidLooks := .later }
def TowerLoopsUptoCardSaid : Prop := Claim7.holds Tryz.pinned (.plain (OpenSpec.upto towerLoopsSpec)) towerLoopsUptoCard

/-- THE SECOND FORM's CARD OF 'oriellaw26.TowerDirs'. -/
def towerDirsUptoCard : Claim7 := { stood := { row := towerDirsUptoRow, standIns := [], harness := (true, "ec7a85003f38aca5b3771ae4b71d7548527e93adfb75af6530c6e3a301ab12c8"), looks := true }, kinds := [], alts := [], laidByText := true, laidKinds := [.pinned, .data, .data, .listed], laidTests := true, laidLooks := .later }
def TowerDirsUptoCardSaid : Prop := Claim7.holds Tryz.pinned (.plain (OpenSpec.upto towerDirsSpec)) towerDirsUptoCard

/-- THE SECOND FORM's CARD OF 'oriellaw26.TowerFds'. -/
def towerFdsUptoCard : Claim7 := { stood := { row := towerFdsUptoRow, standIns := [], harness := (true, "ec7a85003f38aca5b3771ae4b71d7548527e93adfb75af6530c6e3a301ab12c8"), looks := true }, kinds := [], alts := [], laidByText := true, laidKinds := [.pinned, .data, .data, .listed], laidTests := true, laidLooks := .later }
def TowerFdsUptoCardSaid : Prop := Claim7.holds Tryz.pinned (.plain (OpenSpec.upto towerFdsSpec)) towerFdsUptoCard

/-- THE SECOND FORM's CARD OF 'oriellaw26.TowerModes'. -/
def towerModesUptoCard : Claim7 := { stood := { row := towerModesUptoRow, standIns := [], harness := (true, "ec7a85003f38aca5b3771ae4b71d7548527e93adfb75af6530c6e3a301ab12c8"), looks := true }, kinds := [], alts := [], laidByText := true, laidKinds := [.pinned, .data, .data, .listed], laidTests := true, laidLooks := .later }
def TowerModesUptoCardSaid : Prop := Claim7.holds Tryz.pinned (.plain (OpenSpec.upto towerModesSpec)) towerModesUptoCard
end Rows
end Go.Proofs.YtdkbfimccddikaaGreatDoor

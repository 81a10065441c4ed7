/-
  DERIVED. GIVEN WITH THE SEED: THE CARDS: each row of YtbblahphgmkgnaaGreatDoorRows.lean that lists a variable, with what it lists TIED to the program's text (the seventh form; the later family's looks); each row that meets fmt, with fmt's text TOLD by the authors' own Lean function (tested against real Go, not proved from fmt's source: count such statements apart). THE CARD IS WHAT COUNTS. Prove the row's statement (the work); the ties are given (YtbblahphgmkgnaaGreatDoorTie.lean); close each card by the builder's one call (the guide's Derived/Test/ToyasCard.lean, 'card_holds'). Laid BY PROGRAM, IN A SANDBOX (cutbox-door.mjs). By AI agents, Wed Nov 11 2026. No macro, syntax, notation, axiom, sorry.
-/
import Derived.Test.YtbblahphgmkgnaaGreatDoorRows
import GoSem.ClaimSeven
namespace Go.Proofs.YtbblahphgmkgnaaGreatDoor
namespace Rows

/-- THE TIED CARD OF 'oriellaw26.TowerRenames'. -/
def towerRenamesCard : Claim7 := { stood := { row := towerRenamesRow, standIns := [], harness := (true, "5ad245a70a0c1c5f367c3b354daf419341d3ba61e1e53001e8800a8b353dfb57"), looks := true }, kinds := [], alts := [], laidByText := true, laidKinds := [.pinned, .data, .data, .listed], laidTests := true, laidLooks := .later }
def TowerRenamesCardSaid : Prop := Claim7.holds Tryz.pinned (.plain (OpenSpec.ofChange towerRenamesSpec)) towerRenamesCard

/-- THE TIED CARD OF 'oriellaw26.TowerCycles'. -/
def towerCyclesCard : Claim7 := { stood := { row := towerCyclesRow, standIns := [], harness := (true, "5ad245a70a0c1c5f367c3b354daf419341d3ba61e1e53001e8800a8b353dfb57"), looks := true }, kinds := [], alts := [], laidByText := true, laidKinds := [.pinned, .data, .data, .listed], laidTests := true, laidLooks := .later }
def TowerCyclesCardSaid : Prop := Claim7.holds Tryz.pinned (.plain (OpenSpec.ofChange towerCyclesSpec)) towerCyclesCard

/-- THE TIED CARD OF 'oriellaw26.TowerDeepens'. -/
def towerDeepensCard : Claim7 := { stood := { row := towerDeepensRow, standIns := [], harness := (true, "5ad245a70a0c1c5f367c3b354daf419341d3ba61e1e53001e8800a8b353dfb57"), looks := true }, kinds := [], alts := [], laidByText := true, laidKinds := [.pinned, .data, .data, .listed], laidTests := true, laidLooks := .later }
def TowerDeepensCardSaid : Prop := Claim7.holds Tryz.pinned (.plain (OpenSpec.ofChange towerDeepensSpec)) towerDeepensCard

/-- THE SECOND FORM's CARD OF 'oriellaw26.TowerRenames'. -/
def towerRenamesUptoCard : Claim7 := { stood := { row := towerRenamesUptoRow, standIns := [], harness := (true, "5ad245a70a0c1c5f367c3b354daf419341d3ba61e1e53001e8800a8b353dfb57"), looks := true }, kinds := [], alts := [], laidByText := true, laidKinds := [.pinned, .data, .data, .listed], laidTests := true, laidLooks := .later }
def TowerRenamesUptoCardSaid : Prop := Claim7.holds Tryz.pinned (.plain (OpenSpec.upto towerRenamesSpec)) towerRenamesUptoCard

/-- THE SECOND FORM's CARD OF 'oriellaw26.TowerCycles'. -/
def towerCyclesUptoCard : Claim7 := { stood := { row := towerCyclesUptoRow, standIns := [], harness := (true, "5ad245a70a0c1c5f367c3b354daf419341d3ba61e1e53001e8800a8b353dfb57"), looks := true }, kinds := [], alts := [], laidByText := true, laidKinds := [.pinned, .data, .data, .listed], laidTests := true, laidLooks := .later }
def TowerCyclesUptoCardSaid : Prop := Claim7.holds Tryz.pinned (.plain (OpenSpec.upto towerCyclesSpec)) towerCyclesUptoCard

/-- THE SECOND FORM's CARD OF 'oriellaw26.TowerDeepens'. -/
def towerDeepensUptoCard : Claim7 := { stood := { row := towerDeepensUptoRow, standIns := [], harness := (true, "5ad245a70a0c1c5f367c3b354daf419341d3ba61e1e53001e8800a8b353dfb57"), looks := true }, kinds := [], alts := [], laidByText := true, laidKinds := [.pinned, .data, .data, .listed], laidTests := true, laidLooks := .later }
def TowerDeepensUptoCardSaid : Prop := Claim7.holds Tryz.pinned (.plain (OpenSpec.upto towerDeepensSpec)) towerDeepensUptoCard
end Rows
end Go.Proofs.YtbblahphgmkgnaaGreatDoor

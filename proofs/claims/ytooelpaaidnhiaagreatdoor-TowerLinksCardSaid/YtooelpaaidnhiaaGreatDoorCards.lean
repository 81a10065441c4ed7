/-
  DERIVED. GIVEN WITH THE SEED: THE CARDS: each row of YtooelpaaidnhiaaGreatDoorRows.lean that lists a variable, with what it lists TIED to the program's text (the seventh form; the later family's looks); each row that meets fmt, with fmt's text TOLD by the authors' own Lean function (tested against real Go, not proved from fmt's source: count such statements apart). THE CARD IS WHAT COUNTS. Prove the row's statement (the work); the ties are given (YtooelpaaidnhiaaGreatDoorTie.lean); close each card by the builder's one call (the guide's Derived/Test/ToyasCard.lean, 'card_holds'). Laid BY PROGRAM, IN A SANDBOX (cutbox-door.mjs). By AI agents, Wed Nov 11 2026. No macro, syntax, notation, axiom, sorry.
-/
import Derived.Test.YtooelpaaidnhiaaGreatDoorRows
import GoSem.ClaimSeven
namespace Go.Proofs.YtooelpaaidnhiaaGreatDoor
namespace Rows

/-- THE TIED CARD OF 'oriellaw26.TowerLinks'. -/
def towerLinksCard : Claim7 := { stood := { row := towerLinksRow, standIns := [], harness := (true, "bd1e73ec41a18e978c2b862b035304b0af70772a479a0f0f465bb16f15d71c2c"), looks := true }, kinds := [], alts := [], laidByText := true, laidKinds := [.pinned, .data, .data, .listed], laidTests := true, laidLooks := .later }
def TowerLinksCardSaid : Prop := Claim7.holds Tryz.pinned (.plain (OpenSpec.ofChange towerLinksSpec)) towerLinksCard

/-- THE TIED CARD OF 'oriellaw26.TowerCwd'. -/
def towerCwdCard : Claim7 := { stood := { row := towerCwdRow, standIns := [], harness := (true, "bd1e73ec41a18e978c2b862b035304b0af70772a479a0f0f465bb16f15d71c2c"), looks := true }, kinds := [], alts := [], laidByText := true, laidKinds := [.pinned, .data, .data, .listed], laidTests := true, laidLooks := .later }
def TowerCwdCardSaid : Prop := Claim7.holds Tryz.pinned (.plain (OpenSpec.ofChange towerCwdSpec)) towerCwdCard

/-- THE TIED CARD OF 'oriellaw26.TowerSizes'. -/
def towerSizesCard : Claim7 := { stood := { row := towerSizesRow, standIns := [], harness := (true, "bd1e73ec41a18e978c2b862b035304b0af70772a479a0f0f465bb16f15d71c2c"), looks := true }, kinds := [], alts := [], laidByText := true, laidKinds := [.pinned, .data, .data, .listed], laidTests := true, laidLooks := .later }
def TowerSizesCardSaid : Prop := Claim7.holds Tryz.pinned (.plain (OpenSpec.ofChange towerSizesSpec)) towerSizesCard

/-- THE TIED CARD OF 'oriellaw26.TowerThrough'. -/
def towerThroughCard : Claim7 := { stood := { row := towerThroughRow, standIns := [], harness := (true, "bd1e73ec41a18e978c2b862b035304b0af70772a479a0f0f465bb16f15d71c2c"), looks := true }, kinds := [], alts := [], laidByText := true, laidKinds := [.pinned, .data, .data, .listed], laidTests := true, laidLooks := .later }
def TowerThroughCardSaid : Prop := Claim7.holds Tryz.pinned (.plain (OpenSpec.ofChange towerThroughSpec)) towerThroughCard

/-- THE SECOND FORM's CARD OF 'oriellaw26.TowerLinks'. -/
def towerLinksUptoCard : Claim7 := { stood := { row := towerLinksUptoRow, standIns := [], harness := (true, "bd1e73ec41a18e978c2b862b035304b0af70772a479a0f0f465bb16f15d71c2c"), looks := true }, kinds := [], alts := [], laidByText := true, laidKinds := [.pinned, .data, .data, .listed], laidTests := true, laidLooks := .later }
def TowerLinksUptoCardSaid : Prop := Claim7.holds Tryz.pinned (.plain (OpenSpec.upto towerLinksSpec)) towerLinksUptoCard

/-- THE SECOND FORM's CARD OF 'oriellaw26.TowerCwd'. -/
def towerCwdUptoCard : Claim7 := { stood := { row := towerCwdUptoRow, standIns := [], harness := (true, "bd1e73ec41a18e978c2b862b035304b0af70772a479a0f0f465bb16f15d71c2c"), looks := true }, kinds := [], alts := [], laidByText := true, laidKinds := [.pinned, .data, .data, .listed], laidTests := true, laidLooks := .later }
def TowerCwdUptoCardSaid : Prop := Claim7.holds Tryz.pinned (.plain (OpenSpec.upto towerCwdSpec)) towerCwdUptoCard

/-- THE SECOND FORM's CARD OF 'oriellaw26.TowerSizes'. -/
def towerSizesUptoCard : Claim7 := { stood := { row := towerSizesUptoRow, standIns := [], harness := (true, "bd1e73ec41a18e978c2b862b035304b0af70772a479a0f0f465bb16f15d71c2c"), looks := true }, kinds := [], alts := [], laidByText := true, laidKinds := [.pinned, .data, .data, .listed], laidTests := true, laidLooks := .later }
def TowerSizesUptoCardSaid : Prop := Claim7.holds Tryz.pinned (.plain (OpenSpec.upto towerSizesSpec)) towerSizesUptoCard

/-- THE SECOND FORM's CARD OF 'oriellaw26.TowerThrough'. -/
def towerThroughUptoCard : Claim7 := { stood := { row := towerThroughUptoRow, standIns := [], harness := (true, "bd1e73ec41a18e978c2b862b035304b0af70772a479a0f0f465bb16f15d71c2c"), looks := true }, kinds := [], alts := [], laidByText := true, laidKinds := [.pinned, .data, .data, .listed], laidTests := true, laidLooks := .later }
def TowerThroughUptoCardSaid : Prop := Claim7.holds Tryz.pinned (.plain (OpenSpec.upto towerThroughSpec)) towerThroughUptoCard
end Rows
end Go.Proofs.YtooelpaaidnhiaaGreatDoor

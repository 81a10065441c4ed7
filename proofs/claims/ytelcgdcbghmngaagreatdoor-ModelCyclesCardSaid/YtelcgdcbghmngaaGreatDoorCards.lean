/-
  DERIVED. GIVEN WITH THE SEED: THE CARDS: each row of YtelcgdcbghmngaaGreatDoorRows.lean that lists a variable, with what it lists TIED to the program's text (the seventh form; the later family's looks); each row that meets fmt, with fmt's text TOLD by the authors' own Lean function (tested against real Go, not proved from fmt's source: count such statements apart). THE CARD IS WHAT COUNTS. Prove the row's statement (the work); the ties are given (YtelcgdcbghmngaaGreatDoorTie.lean); close each card by the builder's one call (the guide's Derived/Test/ToyasCard.lean, 'card_holds'). Laid BY PROGRAM, IN A SANDBOX (cutbox-door.mjs). By AI agents, Wed Nov 11 2026. No macro, syntax, notation, axiom, sorry.
-/
import Derived.Test.YtelcgdcbghmngaaGreatDoorRows
import GoSem.ClaimSeven
namespace Go.Proofs.YtelcgdcbghmngaaGreatDoor
namespace Rows

/-- THE TIED CARD OF 'oriellaw25.ModelLoops'. -/
def modelLoopsCard : Claim7 := { stood := { row := modelLoopsRow, standIns := [], harness := (true, "fe829b298701c9457d05b2ddc70ef72007ba294b4149ada241c551fc2126c834"), looks := true }, kinds := [], alts := [], laidByText := true, laidKinds := [.data, .listed, .data, .pinned], laidTests := true, laidLooks := .later }
def ModelLoopsCardSaid : Prop := Claim7.holds Tryz.pinned (.plain (OpenSpec.ofChange modelLoopsSpec)) modelLoopsCard

/-- THE TIED CARD OF 'oriellaw25.ModelRenames'. -/
def modelRenamesCard : Claim7 := { stood := { row := modelRenamesRow, standIns := [], harness := (true, "fe829b298701c9457d05b2ddc70ef72007ba294b4149ada241c551fc2126c834"), looks := true }, kinds := [], alts := [], laidByText := true, laidKinds := [.data, .listed, .data, .pinned], laidTests := true, laidLooks := .later }
def ModelRenamesCardSaid : Prop := Claim7.holds Tryz.pinned (.plain (OpenSpec.ofChange modelRenamesSpec)) modelRenamesCard

/-- THE TIED CARD OF 'oriellaw25.ModelCycles'. -/
def modelCyclesCard : Claim7 := { stood := { row := modelCyclesRow, standIns := [], harness := (true, "fe829b298701c9457d05b2ddc70ef72007ba294b4149ada241c551fc2126c834"), looks := true }, kinds := [], alts := [], laidByText := true, laidKinds := [.data, .listed, .data, .pinned], laidTests := true, laidLooks := .later }
def ModelCyclesCardSaid : Prop := Claim7.holds Tryz.pinned (.plain (OpenSpec.ofChange modelCyclesSpec)) modelCyclesCard

/-- THE TIED CARD OF 'oriellaw25.ModelDeepens'. -/
def modelDeepensCard : Claim7 := { stood := { row := modelDeepensRow, standIns := [], harness := (true, "fe829b298701c9457d05b2ddc70ef72007ba294b4149ada241c551fc2126c834"), looks := true }, kinds := [], alts := [], laidByText := true, laidKinds := [.data, .listed, .data, .pinned], laidTests := true, laidLooks := .later }
def ModelDeepensCardSaid : Prop := Claim7.holds Tryz.pinned (.plain (OpenSpec.ofChange modelDeepensSpec)) modelDeepensCard

/-- THE SECOND FORM's CARD OF 'oriellaw25.ModelLoops'. -/
def modelLoopsUptoCard : Claim7 := { stood := { row := modelLoopsUptoRow, standIns := [], harness := (true, "fe829b298701c9457d05b2ddc70ef72007ba294b4149ada241c551fc2126c834"), looks := true }, kinds := [], alts := [], laidByText := true, laidKinds := [.data, .listed, .data, .pinned], laidTests := true, laidLooks := .later }
def ModelLoopsUptoCardSaid : Prop := Claim7.holds Tryz.pinned (.plain (OpenSpec.upto modelLoopsSpec)) modelLoopsUptoCard

/-- THE SECOND FORM's CARD OF 'oriellaw25.ModelRenames'. -/
def modelRenamesUptoCard : Claim7 := { stood := { row := modelRenamesUptoRow, standIns := [], harness := (true, "fe829b298701c9457d05b2ddc70ef72007ba294b4149ada241c551fc2126c834"), looks := true }, kinds := [], alts := [], laidByText := true, laidKinds := [.data, .listed, .data, .pinned], laidTests := true, laidLooks := .later }
def ModelRenamesUptoCardSaid : Prop := Claim7.holds Tryz.pinned (.plain (OpenSpec.upto modelRenamesSpec)) modelRenamesUptoCard

/-- THE SECOND FORM's CARD OF 'oriellaw25.ModelCycles'. -/
def modelCyclesUptoCard : Claim7 := { stood := { row := modelCyclesUptoRow, standIns := [], harness := (true, "fe829b298701c9457d05b2ddc70ef72007ba294b4149ada241c551fc2126c834"), looks := true }, kinds := [], alts := [], laidByText := true, laidKinds := [.data, .listed, .data, .pinned], laidTests := true, laidLooks := .later }
def ModelCyclesUptoCardSaid : Prop := Claim7.holds Tryz.pinned (.plain (OpenSpec.upto modelCyclesSpec)) modelCyclesUptoCard

/-- THE SECOND FORM's CARD OF 'oriellaw25.ModelDeepens'. -/
def modelDeepensUptoCard : Claim7 := { stood := { row := modelDeepensUptoRow, standIns := [], harness := (true, "fe829b298701c9457d05b2ddc70ef72007ba294b4149ada241c551fc2126c834"), looks := true }, kinds := [], alts := [], laidByText := true, laidKinds := [.data, .listed, .data, .pinned], laidTests := true, laidLooks := .later }
def ModelDeepensUptoCardSaid : Prop := Claim7.holds Tryz.pinned (.plain (OpenSpec.upto modelDeepensSpec)) modelDeepensUptoCard
end Rows
end Go.Proofs.YtelcgdcbghmngaaGreatDoor

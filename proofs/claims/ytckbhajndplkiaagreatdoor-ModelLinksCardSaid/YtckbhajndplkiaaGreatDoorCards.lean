/-
  DERIVED. GIVEN WITH THE SEED: THE CARDS: each row of YtckbhajndplkiaaGreatDoorRows.lean that lists a variable, with what it lists TIED to the program's text (the seventh form; the later family's looks); each row that meets fmt, with fmt's text TOLD by the authors' own Lean function (tested against real Go, not proved from fmt's source: count such statements apart). THE CARD IS WHAT COUNTS. Prove the row's statement (the work); the ties are given (YtckbhajndplkiaaGreatDoorTie.lean); close each card by the builder's one call (the guide's Derived/Test/ToyasCard.lean, 'card_holds'). Laid BY PROGRAM, IN A SANDBOX (cutbox-door.mjs). By AI agents, Wed Nov 11 2026. No macro, syntax, notation, axiom, sorry.
-/
import Derived.Test.YtckbhajndplkiaaGreatDoorRows
import GoSem.ClaimSeven
namespace Go.Proofs.YtckbhajndplkiaaGreatDoor
namespace Rows

/-- THE TIED CARD OF 'oriellaw25.ModelSizes'. -/
def modelSizesCard : Claim7 := { stood := { row := modelSizesRow, standIns := [], harness := (true, "b9b07308e89a745983839b1ae4d25fabc5caf3266055858fdddf0ef1519788b4"), looks := true }, kinds := [], alts := [], laidByText := true, laidKinds := [.data, .listed, .data, .pinned], laidTests := true, laidLooks := .later }
def ModelSizesCardSaid : Prop := Claim7.holds Tryz.pinned (.plain (OpenSpec.ofChange modelSizesSpec)) modelSizesCard

/-- THE TIED CARD OF 'oriellaw25.ModelLinks'. -/
def modelLinksCard : Claim7 := { stood := { row := modelLinksRow, standIns := [], harness := (true, "b9b07308e89a745983839b1ae4d25fabc5caf3266055858fdddf0ef1519788b4"), looks := true }, kinds := [], alts := [], laidByText := true, laidKinds := [.data, .listed, .data, .pinned], laidTests := true, laidLooks := .later }
def ModelLinksCardSaid : Prop := Claim7.holds Tryz.pinned (.plain (OpenSpec.ofChange modelLinksSpec)) modelLinksCard

/-- THE TIED CARD OF 'oriellaw25.ModelLoops'. -/
def modelLoopsCard : Claim7 := { stood := { row := modelLoopsRow, standIns := [], harness := (true, "b9b07308e89a745983839b1ae4d25fabc5caf3266055858fdddf0ef1519788b4"), looks := true }, kinds := [], alts := [], laidByText := true, laidKinds := [.data, .listed, .data, .pinned], laidTests := true, laidLooks := .later }
def ModelLoopsCardSaid : Prop := Claim7.holds Tryz.pinned (.plain (OpenSpec.ofChange modelLoopsSpec)) modelLoopsCard

/-- THE TIED CARD OF 'oriellaw25.ModelModes'. -/
def modelModesCard : Claim7 := { stood := { row := modelModesRow, standIns := [], harness := (true, "b9b07308e89a745983839b1ae4d25fabc5caf3266055858fdddf0ef1519788b4"), looks := true }, kinds := [], alts := [], laidByText := true, laidKinds := [.data, .listed, .data, .pinned], laidTests := true, laidLooks := .later }
def ModelModesCardSaid : Prop := Claim7.holds Tryz.pinned (.plain (OpenSpec.ofChange modelModesSpec)) modelModesCard

/-- THE TIED CARD OF 'oriellaw25.ModelCwd'. -/
def modelCwdCard : Claim7 := { stood := { row := modelCwdRow, standIns := [], harness := (true, "b9b07308e89a745983839b1ae4d25fabc5caf3266055858fdddf0ef1519788b4"), looks := true }, kinds := [], alts := [], laidByText := true, laidKinds := [.data, .listed, .data, .pinned], laidTests := true, laidLooks := .later }
def ModelCwdCardSaid : Prop := Claim7.holds Tryz.pinned (.plain (OpenSpec.ofChange modelCwdSpec)) modelCwdCard

/-- THE TIED CARD OF 'oriellaw25.ModelFull'. -/
def modelFullCard : Claim7 := { stood := { row := modelFullRow, standIns := [], harness := (true, "b9b07308e89a745983839b1ae4d25fabc5caf3266055858fdddf0ef1519788b4"), looks := true }, kinds := [], alts := [], laidByText := true, laidKinds := [.data, .listed, .data, .pinned], laidTests := true, laidLooks := .later }
def ModelFullCardSaid : Prop := Claim7.holds Tryz.pinned (.plain (OpenSpec.ofChange modelFullSpec)) modelFullCard

/-- THE TIED CARD OF 'oriellaw25.ModelRooms'. -/
def modelRoomsCard : Claim7 := { stood := { row := modelRoomsRow, standIns := [], harness := (true, "b9b07308e89a745983839b1ae4d25fabc5caf3266055858fdddf0ef1519788b4"), looks := true }, kinds := [], alts := [], laidByText := true, laidKinds := [.data, .listed, .data, .pinned], laidTests := true, laidLooks := .later }
def ModelRoomsCardSaid : Prop := Claim7.holds Tryz.pinned (.plain (OpenSpec.ofChange modelRoomsSpec)) modelRoomsCard

/-- THE TIED CARD OF 'oriellaw25.ModelThrough'. -/
def modelThroughCard : Claim7 := { stood := { row := modelThroughRow, standIns := [], harness := (true, "b9b07308e89a745983839b1ae4d25fabc5caf3266055858fdddf0ef1519788b4"), looks := true }, kinds := [], alts := [], laidByText := true, laidKinds := [.data, .listed, .data, .pinned], laidTests := true, laidLooks := .later }
def ModelThroughCardSaid : Prop := Claim7.holds Tryz.pinned (.plain (OpenSpec.ofChange modelThroughSpec)) modelThroughCard

/-- THE SECOND FORM's CARD OF 'oriellaw25.ModelSizes'. -/
def modelSizesUptoCard : Claim7 := { stood := { row := modelSizesUptoRow, standIns := [], harness := (true, "b9b07308e89a745983839b1ae4d25fabc5caf3266055858fdddf0ef1519788b4"), looks := true }, kinds := [], alts := [], laidByText := true, laidKinds := [.data, .listed, .data, .pinned], laidTests := true, laidLooks := .later }
def ModelSizesUptoCardSaid : Prop := Claim7.holds Tryz.pinned (.plain (OpenSpec.upto modelSizesSpec)) modelSizesUptoCard

/-- THE SECOND FORM's CARD OF 'oriellaw25.ModelLinks'. -/
def modelLinksUptoCard : Claim7 := { stood := { row := modelLinksUptoRow, standIns := [], harness := (true, "b9b07308e89a745983839b1ae4d25fabc5caf3266055858fdddf0ef1519788b4"), looks := true }, kinds := [], alts := [], laidByText := true, laidKinds := [.data, .listed, .data, .pinned], laidTests := true, laidLooks := .later }
def ModelLinksUptoCardSaid : Prop := Claim7.holds Tryz.pinned (.plain (OpenSpec.upto modelLinksSpec)) modelLinksUptoCard

/-- THE SECOND FORM's CARD OF 'oriellaw25.ModelLoops'. -/
def modelLoopsUptoCard : Claim7 := { stood := { row := modelLoopsUptoRow, standIns := [], harness := (true, "b9b07308e89a745983839b1ae4d25fabc5caf3266055858fdddf0ef1519788b4"), looks := true }, kinds := [], alts := [], laidByText := true, laidKinds := [.data, .listed, .data, .pinned], laidTests := true, laidLooks := .later }
def ModelLoopsUptoCardSaid : Prop := Claim7.holds Tryz.pinned (.plain (OpenSpec.upto modelLoopsSpec)) modelLoopsUptoCard

/-- THE SECOND FORM's CARD OF 'oriellaw25.ModelModes'. -/
def modelModesUptoCard : Claim7 := { stood := { row := modelModesUptoRow, standIns := [], harness := (true, "b9b07308e89a745983839b1ae4d25fabc5caf3266055858fdddf0ef1519788b4"), looks := true }, kinds := [], alts := [], laidByText := true, laidKinds := [.data, .listed, .data, .pinned], laidTests := true, laidLooks := .later }
def ModelModesUptoCardSaid : Prop := Claim7.holds Tryz.pinned (.plain (OpenSpec.upto modelModesSpec)) modelModesUptoCard

/-- THE SECOND FORM's CARD OF 'oriellaw25.ModelCwd'. -/
def modelCwdUptoCard : Claim7 := { stood := { row := modelCwdUptoRow, standIns := [], harness := (true, "b9b07308e89a745983839b1ae4d25fabc5caf3266055858fdddf0ef1519788b4"), looks := true }, kinds := [], alts := [], laidByText := true, laidKinds := [.data, .listed, .data, .pinned], laidTests := true, laidLooks := .later }
def ModelCwdUptoCardSaid : Prop := Claim7.holds Tryz.pinned (.plain (OpenSpec.upto modelCwdSpec)) modelCwdUptoCard

/-- THE SECOND FORM's CARD OF 'oriellaw25.ModelFull'. -/
def modelFullUptoCard : Claim7 := { stood := { row := modelFullUptoRow, standIns := [], harness := (true, "b9b07308e89a745983839b1ae4d25fabc5caf3266055858fdddf0ef1519788b4"), looks := true }, kinds := [], alts := [], laidByText := true, laidKinds := [.data, .listed, .data, .pinned], laidTests := true, laidLooks := .later }
def ModelFullUptoCardSaid : Prop := Claim7.holds Tryz.pinned (.plain (OpenSpec.upto modelFullSpec)) modelFullUptoCard

/-- THE SECOND FORM's CARD OF 'oriellaw25.ModelRooms'. -/
def modelRoomsUptoCard : Claim7 := { stood := { row := modelRoomsUptoRow, standIns := [], harness := (true, "b9b07308e89a745983839b1ae4d25fabc5caf3266055858fdddf0ef1519788b4"), looks := true }, kinds := [], alts := [], laidByText := true, laidKinds := [.data, .listed, .data, .pinned], laidTests := true, laidLooks := .later }
def ModelRoomsUptoCardSaid : Prop := Claim7.holds Tryz.pinned (.plain (OpenSpec.upto modelRoomsSpec)) modelRoomsUptoCard

/-- THE SECOND FORM's CARD OF 'oriellaw25.ModelThrough'. -/
def modelThroughUptoCard : Claim7 := { stood := { row := modelThroughUptoRow, standIns := [], harness := (true, "b9b07308e89a745983839b1ae4d25fabc5caf3266055858fdddf0ef1519788b4"), looks := true }, kinds := [], alts := [], laidByText := true, laidKinds := [.data, .listed, .data, .pinned], laidTests := true, laidLooks := .later }
def ModelThroughUptoCardSaid : Prop := Claim7.holds Tryz.pinned (.plain (OpenSpec.upto modelThroughSpec)) modelThroughUptoCard
end Rows
end Go.Proofs.YtckbhajndplkiaaGreatDoor

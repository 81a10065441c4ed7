/-
  DERIVED. GIVEN WITH THE SEED: THE CARDS: each row of YtndjamcbdcjleaaGreatDoorRows.lean that lists a variable, with what it lists TIED to the program's text (the seventh form; the later family's looks); each row that meets fmt, with fmt's text TOLD by the authors' own Lean function (tested against real Go, not proved from fmt's source: count such statements apart). THE CARD IS WHAT COUNTS. Prove the row's statement (the work); the ties are given (YtndjamcbdcjleaaGreatDoorTie.lean); close each card by the builder's one call (the guide's Derived/Test/ToyasCard.lean, 'card_holds'). Laid BY PROGRAM, IN A SANDBOX (cutbox-door.mjs). By AI agents, Wed Nov 11 2026. No macro, syntax, notation, axiom, sorry.
-/
import Derived.Test.YtndjamcbdcjleaaGreatDoorRows
import GoSem.ClaimSeven
namespace Go.Proofs.YtndjamcbdcjleaaGreatDoor
namespace Rows

/-- THE TIED CARD OF 'oriellaw23.PlanOrder'. -/
def planOrderCard : Claim7 := { stood := { row := planOrderRow, standIns := [], harness := (true, "eb1da12dd74fce891071f644443a80806bab278968abf27f52801a379c50150d"), looks := true }, kinds := [], alts := [], laidByText := true, laidKinds := [.data, .listed, .data, .pinned], laidTests := true, laidLooks := .later }
def PlanOrderCardSaid : Prop := Claim7.holds Tryz.pinned (.plain (OpenSpec.ofChange planOrderSpec)) planOrderCard

/-- THE TIED CARD OF 'oriellaw23.PlanFuel'. -/
def planFuelCard : Claim7 := { stood := { row := planFuelRow, standIns := [], harness := (true, "eb1da12dd74fce891071f644443a80806bab278968abf27f52801a379c50150d"), looks := true }, kinds := [], alts := [], laidByText := true, laidKinds := [.data, .listed, .data, .pinned], laidTests := true, laidLooks := .later }
def PlanFuelCardSaid : Prop := Claim7.holds Tryz.pinned (.plain (OpenSpec.ofChange planFuelSpec)) planFuelCard

/-- THE TIED CARD OF 'oriellaw23.PlanStages'. -/
def planStagesCard : Claim7 := { stood := { row := planStagesRow, standIns := [], harness := (true, "eb1da12dd74fce891071f644443a80806bab278968abf27f52801a379c50150d"), looks := true }, kinds := [], alts := [], laidByText := true, laidKinds := [.data, .listed, .data, .pinned], laidTests := true, laidLooks := .later }
def PlanStagesCardSaid : Prop := Claim7.holds Tryz.pinned (.plain (OpenSpec.ofChange planStagesSpec)) planStagesCard

/-- THE SECOND FORM's CARD OF 'oriellaw23.PlanOrder'. -/
def planOrderUptoCard : Claim7 := { stood := { row := planOrderUptoRow, standIns := [], harness := (true, "eb1da12dd74fce891071f644443a80806bab278968abf27f52801a379c50150d"), looks := true }, kinds := [], alts := [], laidByText := true, laidKinds := [.data, .listed, .data, .pinned], laidTests := true, laidLooks := .later }
def PlanOrderUptoCardSaid : Prop := Claim7.holds Tryz.pinned (.plain (OpenSpec.upto planOrderSpec)) planOrderUptoCard

/-- THE SECOND FORM's CARD OF 'oriellaw23.PlanFuel'. -/
def planFuelUptoCard : Claim7 := { stood := { row := planFuelUptoRow, standIns := [], harness := (true, "eb1da12dd74fce891071f644443a80806bab278968abf27f52801a379c50150d"), looks := true }, kinds := [], alts := [], laidByText := true, laidKinds := [.data, .listed, .data, .pinned], laidTests := true, laidLooks := .later }
def PlanFuelUptoCardSaid : Prop := Claim7.holds Tryz.pinned (.plain (OpenSpec.upto planFuelSpec)) planFuelUptoCard

/-- THE SECOND FORM's CARD OF 'oriellaw23.PlanStages'. -/
def planStagesUptoCard : Claim7 := { stood := { row := planStagesUptoRow, standIns := [], harness := (true, "eb1da12dd74fce891071f644443a80806bab278968abf27f52801a379c50150d"), looks := true }, kinds := [], alts := [], laidByText := true, laidKinds := [.data, .listed, .data, .pinned], laidTests := true, laidLooks := .later }
def PlanStagesUptoCardSaid : Prop := Claim7.holds Tryz.pinned (.plain (OpenSpec.upto planStagesSpec)) planStagesUptoCard
end Rows
end Go.Proofs.YtndjamcbdcjleaaGreatDoor

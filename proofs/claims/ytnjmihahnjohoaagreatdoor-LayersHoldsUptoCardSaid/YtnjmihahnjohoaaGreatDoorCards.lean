/-
  DERIVED. GIVEN WITH THE SEED: THE CARDS: each row of YtnjmihahnjohoaaGreatDoorRows.lean that lists a variable, with what it lists TIED to the program's text (the seventh form; the later family's looks); each row that meets fmt, with fmt's text TOLD by the authors' own Lean function (tested against real Go, not proved from fmt's source: count such statements apart). THE CARD IS WHAT COUNTS. Prove the row's statement (the work); the ties are given (YtnjmihahnjohoaaGreatDoorTie.lean); close each card by the builder's one call (the guide's Derived/Test/ToyasCard.lean, 'card_holds'). Laid BY PROGRAM, IN A SANDBOX (cutbox-door.mjs). By AI agents, Wed Nov 11 2026. No macro, syntax, notation, axiom, sorry.
-/
import Derived.Test.YtnjmihahnjohoaaGreatDoorRows
import GoSem.ClaimSeven
namespace Go.Proofs.YtnjmihahnjohoaaGreatDoor
namespace Rows

/-- THE TIED CARD OF 'vitrinelaw28.LayersHolds'. -/
def layersHoldsCard : Claim7 := { stood := { row := layersHoldsRow, standIns := [], harness := (true, "1dc4f30732c733e182af7dd866a125f13575db2ed5ac337df0747e72042a5d45"), looks := true }, kinds := [], alts := [], laidByText := true, laidKinds := [.data, .data, .data, .sentinel, .sentinel, .listed, .data], laidTests := true, laidLooks := .later }
def LayersHoldsCardSaid : Prop := Claim7.holds Tryz.pinned (.plain (OpenSpec.ofChange layersHoldsSpec)) layersHoldsCard

/-- THE SECOND FORM's CARD OF 'vitrinelaw28.LayersHolds'. -/
def layersHoldsUptoCard : Claim7 := { stood := { row := layersHoldsUptoRow, standIns := [], harness := (true, "1dc4f30732c733e182af7dd866a125f13575db2ed5ac337df0747e72042a5d45"), looks := true }, kinds := [], alts := [], laidByText := true, laidKinds := [.data, .data, .data, .sentinel, .sentinel, .listed, .data], laidTests := true, laidLooks := .later }
def LayersHoldsUptoCardSaid : Prop := Claim7.holds Tryz.pinned (.plain (OpenSpec.upto layersHoldsSpec)) layersHoldsUptoCard
end Rows
end Go.Proofs.YtnjmihahnjohoaaGreatDoor

/-
  DERIVED. GIVEN WITH THE SEED: THE CARDS: each row of YtebkjhhhdgbloaaGreatDoorRows.lean that lists a variable, with what it lists TIED to the program's text (the seventh form; the later family's looks); each row that meets fmt, with fmt's text TOLD by the authors' own Lean function (tested against real Go, not proved from fmt's source: count such statements apart). THE CARD IS WHAT COUNTS. Prove the row's statement (the work); the ties are given (YtebkjhhhdgbloaaGreatDoorTie.lean); close each card by the builder's one call (the guide's Derived/Test/ToyasCard.lean, 'card_holds'). Laid BY PROGRAM, IN A SANDBOX (cutbox-door.mjs). By AI agents, Wed Nov 11 2026. No macro, syntax, notation, axiom, sorry.
-/
import Derived.Test.YtebkjhhhdgbloaaGreatDoorRows
import GoSem.ClaimSeven
namespace Go.Proofs.YtebkjhhhdgbloaaGreatDoor
namespace Rows

/-- THE TIED CARD OF 'vitrinelaw28.LayersNames'. -/
def layersNamesCard : Claim7 := { stood := { row := layersNamesRow, standIns := [], harness := (true, "da88347c8c18cb91c4d906f633756364417b2c06de4ba68197d79864207b2c06"), looks := true }, kinds := [], alts := [], laidByText := true, laidKinds := [.data, .data, .data, .sentinel, .sentinel, .listed, .data], laidTests := true, laidLooks := .later }
def LayersNamesCardSaid : Prop := Claim7.holds Tryz.pinned (.plain (OpenSpec.ofChange layersNamesSpec)) layersNamesCard

/-- THE SECOND FORM's CARD OF 'vitrinelaw28.LayersNames'. -/
def layersNamesUptoCard : Claim7 := { stood := { row := layersNamesUptoRow, standIns := [], harness := (true, "da88347c8c18cb91c4d906f633756364417b2c06de4ba68197d79864207b2c06"), looks := true }, kinds := [], alts := [], laidByText := true, laidKinds := [.data, .data, .data, .sentinel, .sentinel, .listed, .data], laidTests := true, laidLooks := .later }
def LayersNamesUptoCardSaid : Prop := Claim7.holds Tryz.pinned (.plain (OpenSpec.upto layersNamesSpec)) layersNamesUptoCard
end Rows
end Go.Proofs.YtebkjhhhdgbloaaGreatDoor

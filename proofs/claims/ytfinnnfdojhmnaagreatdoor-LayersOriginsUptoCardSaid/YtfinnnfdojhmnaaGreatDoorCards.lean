/-
  DERIVED. GIVEN WITH THE SEED: THE CARDS: each row of YtfinnnfdojhmnaaGreatDoorRows.lean that lists a variable, with what it lists TIED to the program's text (the seventh form; the later family's looks); each row that meets fmt, with fmt's text TOLD by the authors' own Lean function (tested against real Go, not proved from fmt's source: count such statements apart). THE CARD IS WHAT COUNTS. Prove the row's statement (the work); the ties are given (YtfinnnfdojhmnaaGreatDoorTie.lean); close each card by the builder's one call (the guide's Derived/Test/ToyasCard.lean, 'card_holds'). Laid BY PROGRAM, IN A SANDBOX (cutbox-door.mjs). By AI agents, Wed Nov 11 2026. No macro, syntax, notation, axiom, sorry.
-/
import Derived.Test.YtfinnnfdojhmnaaGreatDoorRows
import GoSem.ClaimSeven
namespace Go.Proofs.YtfinnnfdojhmnaaGreatDoor
namespace Rows

/-- THE TIED CARD OF 'vitrinelaw28.LayersOrigins'. -/
def layersOriginsCard : Claim7 := { stood := { row := layersOriginsRow, standIns := [], harness := (true, "f7a0aff2baac24ff5e9f52c7c339273ade44f033ce6c6c57dd94a00a87ee652a"), looks := true }, kinds := [], alts := [], laidByText := true, laidKinds := [.data, .data, .data, .sentinel, .sentinel, .listed, .data], laidTests := true, laidLooks := .later }
def LayersOriginsCardSaid : Prop := Claim7.holds Tryz.pinned (.plain (OpenSpec.ofChange layersOriginsSpec)) layersOriginsCard

/-- THE SECOND FORM's CARD OF 'vitrinelaw28.LayersOrigins'. -/
def layersOriginsUptoCard : Claim7 := { stood := { row := layersOriginsUptoRow, standIns := [], harness := (true, "f7a0aff2baac24ff5e9f52c7c339273ade44f033ce6c6c57dd94a00a87ee652a"), looks := true }, kinds := [], alts := [], laidByText := true, laidKinds := [.data, .data, .data, .sentinel, .sentinel, .listed, .data], laidTests := true, laidLooks := .later }
def LayersOriginsUptoCardSaid : Prop := Claim7.holds Tryz.pinned (.plain (OpenSpec.upto layersOriginsSpec)) layersOriginsUptoCard
end Rows
end Go.Proofs.YtfinnnfdojhmnaaGreatDoor

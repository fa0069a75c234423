/-
  DERIVED. GIVEN WITH THE SEED: THE CARDS: each row of YtlgligdlpbggaaaGreatDoorRows.lean that lists a variable, with what it lists TIED to the program's text (the seventh form; the later family's looks); each row that meets fmt, with fmt's text TOLD by the authors' own Lean function (tested against real Go, not proved from fmt's source: count such statements apart). THE CARD IS WHAT COUNTS. Prove the row's statement (the work); the ties are given (YtlgligdlpbggaaaGreatDoorTie.lean); close each card by the builder's one call (the guide's Derived/Test/ToyasCard.lean, 'card_holds'). Laid BY PROGRAM, IN A SANDBOX (cutbox-door.mjs). By AI agents, Wed Nov 11 2026. No macro, syntax, notation, axiom, sorry.
-/
import Derived.Test.YtlgligdlpbggaaaGreatDoorRows
import GoSem.ClaimSeven
namespace Go.Proofs.YtlgligdlpbggaaaGreatDoor
namespace Rows

/-- THE TIED CARD OF 'vitrinelaw28.LayersFirst'. -/
def layersFirstCard : Claim7 := { stood := { row := layersFirstRow, standIns := [], harness := (true, "93a4f5bb7d730ed88b11d2cae22449f3e21002320bb26036cf39949d89d1e411"), looks := true }, kinds := [], alts := [], laidByText := true, laidKinds := [.data, .data, .data, .sentinel, .sentinel, .listed, .data], laidTests := true, laidLooks := .later }
def LayersFirstCardSaid : Prop := Claim7.holds Tryz.pinned (.plain (OpenSpec.ofChange layersFirstSpec)) layersFirstCard

/-- THE SECOND FORM's CARD OF 'vitrinelaw28.LayersFirst'. -/
def layersFirstUptoCard : Claim7 := { stood := { row := layersFirstUptoRow, standIns := [], harness := (true, "93a4f5bb7d730ed88b11d2cae22449f3e21002320bb26036cf39949d89d1e411"), looks := true }, kinds := [], alts := [], laidByText := true, laidKinds := [.data, .data, .data, .sentinel, .sentinel, .listed, .data], laidTests := true, laidLooks := .later }
def LayersFirstUptoCardSaid : Prop := Claim7.holds Tryz.pinned (.plain (OpenSpec.upto layersFirstSpec)) layersFirstUptoCard
end Rows
end Go.Proofs.YtlgligdlpbggaaaGreatDoor

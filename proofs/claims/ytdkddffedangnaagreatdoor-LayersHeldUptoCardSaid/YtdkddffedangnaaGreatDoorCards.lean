/-
  DERIVED. GIVEN WITH THE SEED: THE CARDS: each row of YtdkddffedangnaaGreatDoorRows.lean that lists a variable, with what it lists TIED to the program's text (the seventh form; the later family's looks); each row that meets fmt, with fmt's text TOLD by the authors' own Lean function (tested against real Go, not proved from fmt's source: count such statements apart). THE CARD IS WHAT COUNTS. Prove the row's statement (the work); the ties are given (YtdkddffedangnaaGreatDoorTie.lean); close each card by the builder's one call (the guide's Derived/Test/ToyasCard.lean, 'card_holds'). Laid BY PROGRAM, IN A SANDBOX (cutbox-door.mjs). By AI agents, Wed Nov 11 2026. No macro, syntax, notation, axiom, sorry.
-/
import Derived.Test.YtdkddffedangnaaGreatDoorRows
import GoSem.ClaimSeven
namespace Go.Proofs.YtdkddffedangnaaGreatDoor
namespace Rows

/-- THE TIED CARD OF 'vitrinelaw28.LayersHeld'. -/
def layersHeldCard : Claim7 := { stood := { row := layersHeldRow, standIns := [], harness := (true, "a1bac8f7370b0b42f417e341828902d093d82f273663d07780b28e0ef04cf48b"), looks := true }, kinds := [], alts := [], laidByText := true, laidKinds := [.data, .data, .data, .sentinel, .sentinel, .listed, .data], laidTests := true, laidLooks := .later }
def LayersHeldCardSaid : Prop := Claim7.holds Tryz.pinned (.plain (OpenSpec.ofChange layersHeldSpec)) layersHeldCard

/-- THE SECOND FORM's CARD OF 'vitrinelaw28.LayersHeld'. -/
def layersHeldUptoCard : Claim7 := { stood := { row := layersHeldUptoRow, standIns := [], harness := (true, "a1bac8f7370b0b42f417e341828902d093d82f273663d07780b28e0ef04cf48b"), looks := true }, kinds := [], alts := [], laidByText := true, laidKinds := [.data, .data, .data, .sentinel, .sentinel, .listed, .data], laidTests := true, laidLooks := .later }
def LayersHeldUptoCardSaid : Prop := Claim7.holds Tryz.pinned (.plain (OpenSpec.upto layersHeldSpec)) layersHeldUptoCard
end Rows
end Go.Proofs.YtdkddffedangnaaGreatDoor

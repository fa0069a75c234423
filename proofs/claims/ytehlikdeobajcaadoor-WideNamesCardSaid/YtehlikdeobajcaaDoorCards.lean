/-
  DERIVED. GIVEN WITH THE SEED: THE CARDS: each row of YtehlikdeobajcaaDoorRows.lean that lists a variable, with what it lists TIED to the program's text (the seventh form; the later family's looks); each row that meets fmt, with fmt's text TOLD by the authors' own Lean function (tested against real Go, not proved from fmt's source: count such statements apart). THE CARD IS WHAT COUNTS. Prove the row's statement (the work); the ties are given (YtehlikdeobajcaaDoorTie.lean); close each card by the builder's one call (the guide's Derived/Test/ToyasCard.lean, 'card_holds'). Laid BY PROGRAM, IN A SANDBOX (cutbox-door.mjs). By AI agents, Wed Nov 11 2026. No macro, syntax, notation, axiom, sorry.
-/
import Derived.Test.YtehlikdeobajcaaDoorRows
import GoSem.ClaimSeven
namespace Go.Proofs.YtehlikdeobajcaaDoor
namespace Rows

/-- THE TIED CARD OF 'vitrinelaw31.WideNames'. -/
def wideNamesCard : Claim7 := { stood := { row := wideNamesRow, standIns := [], harness := (true, "8b4f105de95681668a4dfc4cd9d738708e50a180ff02536b16d2d0ad846f2dc6"), looks := false }, kinds := [], alts := [], laidByText := true, laidKinds := [.listed, .data], laidTests := true, laidLooks := .later }
def WideNamesCardSaid : Prop := Claim7.holds Tryd.pinned (.plain (OpenSpec.ofChange wideNamesSpec)) wideNamesCard

/-- THE SECOND FORM's CARD OF 'vitrinelaw31.WideNames'. -/
def wideNamesUptoCard : Claim7 := { stood := { row := wideNamesUptoRow, standIns := [], harness := (true, "8b4f105de95681668a4dfc4cd9d738708e50a180ff02536b16d2d0ad846f2dc6"), looks := false }, kinds := [], alts := [], laidByText := true, laidKinds := [.listed, .data], laidTests := true, laidLooks := .later }
def WideNamesUptoCardSaid : Prop := Claim7.holds Tryd.pinned (.plain (OpenSpec.upto wideNamesSpec)) wideNamesUptoCard
end Rows
end Go.Proofs.YtehlikdeobajcaaDoor

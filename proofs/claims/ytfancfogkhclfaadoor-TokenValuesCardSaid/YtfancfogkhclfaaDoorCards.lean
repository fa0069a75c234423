/-
  DERIVED. GIVEN WITH THE SEED: THE CARDS: each row of YtfancfogkhclfaaDoorRows.lean that lists a variable, with what it lists TIED to the program's text (the seventh form; the later family's looks); each row that meets fmt, with fmt's text TOLD by the authors' own Lean function (tested against real Go, not proved from fmt's source: count such statements apart). THE CARD IS WHAT COUNTS. Prove the row's statement (the work); the ties are given (YtfancfogkhclfaaDoorTie.lean); close each card by the builder's one call (the guide's Derived/Test/ToyasCard.lean, 'card_holds'). Laid BY PROGRAM, IN A SANDBOX (cutbox-door.mjs). By AI agents, Wed Nov 11 2026. No macro, syntax, notation, axiom, sorry.
-/
import Derived.Test.YtfancfogkhclfaaDoorRows
import GoSem.ClaimSeven
namespace Go.Proofs.YtfancfogkhclfaaDoor
namespace Rows

/-- THE TIED CARD OF 'vitrinelaw02.TokenValues'. -/
def tokenValuesCard : Claim7 := { stood := { row := tokenValuesRow, standIns := [], harness := (true, "b540b7e346ef1b61f0198c91ecefcf9a95d8b99e44ff177e9fd08730a30c7c69"), looks := false }, kinds := [], alts := [], laidByText := true, laidKinds := [.data, .pinned], laidTests := true, laidLooks := .later }
def TokenValuesCardSaid : Prop := Claim7.holds Tryd.pinned (.plain (OpenSpec.ofChange tokenValuesSpec)) tokenValuesCard

/-- THE SECOND FORM's CARD OF 'vitrinelaw02.TokenValues'. -/
def tokenValuesUptoCard : Claim7 := { stood := { row := tokenValuesUptoRow, standIns := [], harness := (true, "b540b7e346ef1b61f0198c91ecefcf9a95d8b99e44ff177e9fd08730a30c7c69"), looks := false }, kinds := [], alts := [], laidByText := true, laidKinds := [.data, .pinned], laidTests := true, laidLooks := .later }
def TokenValuesUptoCardSaid : Prop := Claim7.holds Tryd.pinned (.plain (OpenSpec.upto tokenValuesSpec)) tokenValuesUptoCard
end Rows
end Go.Proofs.YtfancfogkhclfaaDoor

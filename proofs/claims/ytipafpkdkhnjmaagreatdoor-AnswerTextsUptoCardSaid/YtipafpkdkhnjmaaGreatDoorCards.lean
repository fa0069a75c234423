/-
  DERIVED. GIVEN WITH THE SEED: THE CARDS: each row of YtipafpkdkhnjmaaGreatDoorRows.lean that lists a variable, with what it lists TIED to the program's text (the seventh form; the later family's looks); each row that meets fmt, with fmt's text TOLD by the authors' own Lean function (tested against real Go, not proved from fmt's source: count such statements apart). THE CARD IS WHAT COUNTS. Prove the row's statement (the work); the ties are given (YtipafpkdkhnjmaaGreatDoorTie.lean); close each card by the builder's one call (the guide's Derived/Test/ToyasCard.lean, 'card_holds'). Laid BY PROGRAM, IN A SANDBOX (cutbox-door.mjs). By AI agents, Wed Nov 11 2026. No macro, syntax, notation, axiom, sorry.
-/
import Derived.Test.YtipafpkdkhnjmaaGreatDoorRows
import GoSem.ClaimSeven
namespace Go.Proofs.YtipafpkdkhnjmaaGreatDoor
namespace Rows

/-- THE TIED CARD OF 'vitrinelaw40.AnswerTexts'. -/
def answerTextsCard : Claim7 := { stood := { row := answerTextsRow, standIns := [], harness := (true, "1b88f116f681268efc30886a1c8edbaa29dd4cff2ff16de22b4a046e620e19a3"), looks := true }, kinds := [], alts := [], laidByText := true, laidKinds := [.data, .data, .data, .sentinel, .sentinel], laidTests := true, laidLooks := .later }
def AnswerTextsCardSaid : Prop := Claim7.holds Tryz.pinned (.plain (OpenSpec.ofChange answerTextsSpec)) answerTextsCard

/-- THE SECOND FORM's CARD OF 'vitrinelaw40.AnswerTexts'. -/
def answerTextsUptoCard : Claim7 := { stood := { row := answerTextsUptoRow, standIns := [], harness := (true, "1b88f116f681268efc30886a1c8edbaa29dd4cff2ff16de22b4a046e620e19a3"), looks := true }, kinds := [], alts := [], laidByText := true, laidKinds := [.data, .data, .data, .sentinel, .sentinel], laidTests := true, laidLooks := .later }
def AnswerTextsUptoCardSaid : Prop := Claim7.holds Tryz.pinned (.plain (OpenSpec.upto answerTextsSpec)) answerTextsUptoCard
end Rows
end Go.Proofs.YtipafpkdkhnjmaaGreatDoor

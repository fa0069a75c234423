/-
  DERIVED. GIVEN WITH THE SEED: THE CARDS: each row of YtipafpkdkhnjmaaDoorRows.lean that lists a variable, with what it lists TIED to the program's text (the seventh form; the later family's looks); each row that meets fmt, with fmt's text TOLD by the authors' own Lean function (tested against real Go, not proved from fmt's source: count such statements apart). THE CARD IS WHAT COUNTS. Prove the row's statement (the work); the ties are given (YtipafpkdkhnjmaaDoorTie.lean); close each card by the builder's one call (the guide's Derived/Test/ToyasCard.lean, 'card_holds'). Laid BY PROGRAM, IN A SANDBOX (cutbox-door.mjs). By AI agents, Wed Nov 11 2026. No macro, syntax, notation, axiom, sorry.
-/
import Derived.Test.YtipafpkdkhnjmaaDoorRows
import GoSem.ClaimSeven
namespace Go.Proofs.YtipafpkdkhnjmaaDoor
namespace Rows

/-- THE TIED CARD OF 'vitrinelaw40.AnswerLines'. -/
def answerLinesCard : Claim7 := { stood := { row := answerLinesRow, standIns := [], harness := (true, "f5708d80384b28cff6b26b75592bb26a52aacfeeb662cc3f19e0923825bd4dc0"), looks := true }, kinds := [], alts := [], laidByText := true, laidKinds := [.data, .data, .data, .sentinel, .sentinel], laidTests := true, laidLooks := .later }
def AnswerLinesCardSaid : Prop := Claim7.holds Tryd.pinned (.plain (OpenSpec.ofChange answerLinesSpec)) answerLinesCard

/-- THE TIED CARD OF 'vitrinelaw40.AnswerOne'. -/
def answerOneCard : Claim7 := { stood := { row := answerOneRow, standIns := [], harness := (true, "f5708d80384b28cff6b26b75592bb26a52aacfeeb662cc3f19e0923825bd4dc0"), looks := true }, kinds := [], alts := [], laidByText := true, laidKinds := [.data, .data, .data, .sentinel, .sentinel], laidTests := true, laidLooks := .later }
def AnswerOneCardSaid : Prop := Claim7.holds Tryd.pinned (.plain (OpenSpec.ofChange answerOneSpec)) answerOneCard

/-- THE TIED CARD OF 'vitrinelaw40.AnswerFirst'. -/
def answerFirstCard : Claim7 := { stood := { row := answerFirstRow, standIns := [], harness := (true, "f5708d80384b28cff6b26b75592bb26a52aacfeeb662cc3f19e0923825bd4dc0"), looks := true }, kinds := [], alts := [], laidByText := true, laidKinds := [.data, .data, .data, .sentinel, .sentinel], laidTests := true, laidLooks := .later }
def AnswerFirstCardSaid : Prop := Claim7.holds Tryd.pinned (.plain (OpenSpec.ofChange answerFirstSpec)) answerFirstCard

/-- THE TIED CARD OF 'vitrinelaw40.AnswerBack'. -/
def answerBackCard : Claim7 := { stood := { row := answerBackRow, standIns := [], harness := (true, "f5708d80384b28cff6b26b75592bb26a52aacfeeb662cc3f19e0923825bd4dc0"), looks := true }, kinds := [], alts := [], laidByText := true, laidKinds := [.data, .data, .data, .sentinel, .sentinel], laidTests := true, laidLooks := .later }
def AnswerBackCardSaid : Prop := Claim7.holds Tryd.pinned (.plain (OpenSpec.ofChange answerBackSpec)) answerBackCard

/-- THE TIED CARD OF 'vitrinelaw40.AnswerNames'. -/
def answerNamesCard : Claim7 := { stood := { row := answerNamesRow, standIns := [], harness := (true, "f5708d80384b28cff6b26b75592bb26a52aacfeeb662cc3f19e0923825bd4dc0"), looks := true }, kinds := [], alts := [], laidByText := true, laidKinds := [.data, .data, .data, .sentinel, .sentinel], laidTests := true, laidLooks := .later }
def AnswerNamesCardSaid : Prop := Claim7.holds Tryd.pinned (.plain (OpenSpec.ofChange answerNamesSpec)) answerNamesCard

/-- THE SECOND FORM's CARD OF 'vitrinelaw40.AnswerLines'. -/
def answerLinesUptoCard : Claim7 := { stood := { row := answerLinesUptoRow, standIns := [], harness := (true, "f5708d80384b28cff6b26b75592bb26a52aacfeeb662cc3f19e0923825bd4dc0"), looks := true }, kinds := [], alts := [], laidByText := true, laidKinds := [.data, .data, .data, .sentinel, .sentinel], laidTests := true, laidLooks := .later }
def AnswerLinesUptoCardSaid : Prop := Claim7.holds Tryd.pinned (.plain (OpenSpec.upto answerLinesSpec)) answerLinesUptoCard

/-- THE SECOND FORM's CARD OF 'vitrinelaw40.AnswerOne'. -/
def answerOneUptoCard : Claim7 := { stood := { row := answerOneUptoRow, standIns := [], harness := (true, "f5708d80384b28cff6b26b75592bb26a52aacfeeb662cc3f19e0923825bd4dc0"), looks := true }, kinds := [], alts := [], laidByText := true, laidKinds := [.data, .data, .data, .sentinel, .sentinel], laidTests := true, laidLooks := .later }
def AnswerOneUptoCardSaid : Prop := Claim7.holds Tryd.pinned (.plain (OpenSpec.upto answerOneSpec)) answerOneUptoCard

/-- THE SECOND FORM's CARD OF 'vitrinelaw40.AnswerFirst'. -/
def answerFirstUptoCard : Claim7 := { stood := { row := answerFirstUptoRow, standIns := [], harness := (true, "f5708d80384b28cff6b26b75592bb26a52aacfeeb662cc3f19e0923825bd4dc0"), looks := true }, kinds := [], alts := [], laidByText := true, laidKinds := [.data, .data, .data, .sentinel, .sentinel], laidTests := true, laidLooks := .later }
def AnswerFirstUptoCardSaid : Prop := Claim7.holds Tryd.pinned (.plain (OpenSpec.upto answerFirstSpec)) answerFirstUptoCard

/-- THE SECOND FORM's CARD OF 'vitrinelaw40.AnswerBack'. -/
def answerBackUptoCard : Claim7 := { stood := { row := answerBackUptoRow, standIns := [], harness := (true, "f5708d80384b28cff6b26b75592bb26a52aacfeeb662cc3f19e0923825bd4dc0"), looks := true }, kinds := [], alts := [], laidByText := true, laidKinds := [.data, .data, .data, .sentinel, .sentinel], laidTests := true, laidLooks := .later }
def AnswerBackUptoCardSaid : Prop := Claim7.holds Tryd.pinned (.plain (OpenSpec.upto answerBackSpec)) answerBackUptoCard

/-- THE SECOND FORM's CARD OF 'vitrinelaw40.AnswerNames'. -/
def answerNamesUptoCard : Claim7 := { stood := { row := answerNamesUptoRow, standIns := [], harness := (true, "f5708d80384b28cff6b26b75592bb26a52aacfeeb662cc3f19e0923825bd4dc0"), looks := true }, kinds := [], alts := [], laidByText := true, laidKinds := [.data, .data, .data, .sentinel, .sentinel], laidTests := true, laidLooks := .later }
def AnswerNamesUptoCardSaid : Prop := Claim7.holds Tryd.pinned (.plain (OpenSpec.upto answerNamesSpec)) answerNamesUptoCard
end Rows
end Go.Proofs.YtipafpkdkhnjmaaDoor

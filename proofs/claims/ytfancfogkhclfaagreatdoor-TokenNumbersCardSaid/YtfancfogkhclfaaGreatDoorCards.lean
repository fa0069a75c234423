/-
  DERIVED. GIVEN WITH THE SEED: THE CARDS: each row of YtfancfogkhclfaaGreatDoorRows.lean that lists a variable, with what it lists TIED to the program's text (the seventh form; the later family's looks); each row that meets fmt, with fmt's text TOLD by the authors' own Lean function (tested against real Go, not proved from fmt's source: count such statements apart). THE CARD IS WHAT COUNTS. Prove the row's statement (the work); the ties are given (YtfancfogkhclfaaGreatDoorTie.lean); close each card by the builder's one call (the guide's Derived/Test/ToyasCard.lean, 'card_holds'). Laid BY PROGRAM, IN A SANDBOX (cutbox-door.mjs). By AI agents, Wed Nov 11 2026. No macro, syntax, notation, axiom, sorry.
-/
import Derived.Test.YtfancfogkhclfaaGreatDoorRows
import GoSem.ClaimSeven
namespace Go.Proofs.YtfancfogkhclfaaGreatDoor
namespace Rows

/-- THE TIED CARD OF 'vitrinelaw02.TokenReads'. -/
def tokenReadsCard : Claim7 := { stood := { row := tokenReadsRow, standIns := [], harness := (true, "e884c5a9eb37e552101e7d236fe809e0b5613a071fbf1ddc537c3c7bd35ec9a7"), looks := true }, kinds := [], alts := [], laidByText := true, laidKinds := [.data, .pinned], laidTests := true, laidLooks := .later }
def TokenReadsCardSaid : Prop := Claim7.holds Tryz.pinned (.plain (OpenSpec.ofChange tokenReadsSpec)) tokenReadsCard

/-- THE TIED CARD OF 'vitrinelaw02.TokenCovers'. -/
def tokenCoversCard : Claim7 := { stood := { row := tokenCoversRow, standIns := [], harness := (true, "e884c5a9eb37e552101e7d236fe809e0b5613a071fbf1ddc537c3c7bd35ec9a7"), looks := true }, kinds := [], alts := [], laidByText := true, laidKinds := [.data, .pinned], laidTests := true, laidLooks := .later }
def TokenCoversCardSaid : Prop := Claim7.holds Tryz.pinned (.plain (OpenSpec.ofChange tokenCoversSpec)) tokenCoversCard

/-- THE TIED CARD OF 'vitrinelaw02.TokenRest'. -/
def tokenRestCard : Claim7 := { stood := { row := tokenRestRow, standIns := [], harness := (true, "e884c5a9eb37e552101e7d236fe809e0b5613a071fbf1ddc537c3c7bd35ec9a7"), looks := true }, kinds := [], alts := [], laidByText := true, laidKinds := [.data, .pinned], laidTests := true, laidLooks := .later }
def TokenRestCardSaid : Prop := Claim7.holds Tryz.pinned (.plain (OpenSpec.ofChange tokenRestSpec)) tokenRestCard

/-- THE TIED CARD OF 'vitrinelaw02.TokenShape'. -/
def tokenShapeCard : Claim7 := { stood := { row := tokenShapeRow, standIns := [], harness := (true, "e884c5a9eb37e552101e7d236fe809e0b5613a071fbf1ddc537c3c7bd35ec9a7"), looks := true }, kinds := [], alts := [], laidByText := true, laidKinds := [.data, .pinned], laidTests := true, laidLooks := .later }
def TokenShapeCardSaid : Prop := Claim7.holds Tryz.pinned (.plain (OpenSpec.ofChange tokenShapeSpec)) tokenShapeCard

/-- THE TIED CARD OF 'vitrinelaw02.TokenNumbers'. -/
def tokenNumbersCard : Claim7 := { stood := { row := tokenNumbersRow, standIns := [], harness := (true, "e884c5a9eb37e552101e7d236fe809e0b5613a071fbf1ddc537c3c7bd35ec9a7"), looks := true }, kinds := [], alts := [], laidByText := true, laidKinds := [.data, .pinned], laidTests := true, laidLooks := .later }
def TokenNumbersCardSaid : Prop := Claim7.holds Tryz.pinned (.plain (OpenSpec.ofChange tokenNumbersSpec)) tokenNumbersCard

/-- THE TIED CARD OF 'vitrinelaw02.TokenNames'. -/
def tokenNamesCard : Claim7 := { stood := { row := tokenNamesRow, standIns := [], harness := (true, "e884c5a9eb37e552101e7d236fe809e0b5613a071fbf1ddc537c3c7bd35ec9a7"), looks := true }, kinds := [], alts := [], laidByText := true, laidKinds := [.data, .pinned], laidTests := true, laidLooks := .later }
def TokenNamesCardSaid : Prop := Claim7.holds Tryz.pinned (.plain (OpenSpec.ofChange tokenNamesSpec)) tokenNamesCard

/-- THE SECOND FORM's CARD OF 'vitrinelaw02.TokenReads'. -/
def tokenReadsUptoCard : Claim7 := { stood := { row := tokenReadsUptoRow, standIns := [], harness := (true, "e884c5a9eb37e552101e7d236fe809e0b5613a071fbf1ddc537c3c7bd35ec9a7"), looks := true }, kinds := [], alts := [], laidByText := true, laidKinds := [.data, .pinned], laidTests := true, laidLooks := .later }
def TokenReadsUptoCardSaid : Prop := Claim7.holds Tryz.pinned (.plain (OpenSpec.upto tokenReadsSpec)) tokenReadsUptoCard

/-- THE SECOND FORM's CARD OF 'vitrinelaw02.TokenCovers'. -/
def tokenCoversUptoCard : Claim7 := { stood := { row := tokenCoversUptoRow, standIns := [], harness := (true, "e884c5a9eb37e552101e7d236fe809e0b5613a071fbf1ddc537c3c7bd35ec9a7"), looks := true }, kinds := [], alts := [], laidByText := true, laidKinds := [.data, .pinned], laidTests := true, laidLooks := .later }
def TokenCoversUptoCardSaid : Prop := Claim7.holds Tryz.pinned (.plain (OpenSpec.upto tokenCoversSpec)) tokenCoversUptoCard

/-- THE SECOND FORM's CARD OF 'vitrinelaw02.TokenRest'. -/
def tokenRestUptoCard : Claim7 := { stood := { row := tokenRestUptoRow, standIns := [], harness := (true, "e884c5a9eb37e552101e7d236fe809e0b5613a071fbf1ddc537c3c7bd35ec9a7"), looks := true }, kinds := [], alts := [], laidByText := true, laidKinds := [.data, .pinned], laidTests := true, laidLooks := .later }
def TokenRestUptoCardSaid : Prop := Claim7.holds Tryz.pinned (.plain (OpenSpec.upto tokenRestSpec)) tokenRestUptoCard

/-- THE SECOND FORM's CARD OF 'vitrinelaw02.TokenShape'. -/
def tokenShapeUptoCard : Claim7 := { stood := { row := tokenShapeUptoRow, standIns := [], harness := (true, "e884c5a9eb37e552101e7d236fe809e0b5613a071fbf1ddc537c3c7bd35ec9a7"), looks := true }, kinds := [], alts := [], laidByText := true, laidKinds := [.data, .pinned], laidTests := true, laidLooks := .later }
def TokenShapeUptoCardSaid : Prop := Claim7.holds Tryz.pinned (.plain (OpenSpec.upto tokenShapeSpec)) tokenShapeUptoCard

/-- THE SECOND FORM's CARD OF 'vitrinelaw02.TokenNumbers'. -/
def tokenNumbersUptoCard : Claim7 := { stood := { row := tokenNumbersUptoRow, standIns := [], harness := (true, "e884c5a9eb37e552101e7d236fe809e0b5613a071fbf1ddc537c3c7bd35ec9a7"), looks := true }, kinds := [], alts := [], laidByText := true, laidKinds := [.data, .pinned], laidTests := true, laidLooks := .later }
def TokenNumbersUptoCardSaid : Prop := Claim7.holds Tryz.pinned (.plain (OpenSpec.upto tokenNumbersSpec)) tokenNumbersUptoCard

/-- THE SECOND FORM's CARD OF 'vitrinelaw02.TokenNames'. -/
def tokenNamesUptoCard : Claim7 := { stood := { row := tokenNamesUptoRow, standIns := [], harness := (true, "e884c5a9eb37e552101e7d236fe809e0b5613a071fbf1ddc537c3c7bd35ec9a7"), looks := true }, kinds := [], alts := [], laidByText := true, laidKinds := [.data, .pinned], laidTests := true, laidLooks := .later }
def TokenNamesUptoCardSaid : Prop := Claim7.holds Tryz.pinned (.plain (OpenSpec.upto tokenNamesSpec)) tokenNamesUptoCard
end Rows
end Go.Proofs.YtfancfogkhclfaaGreatDoor

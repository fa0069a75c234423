/-
  DERIVED. GIVEN WITH THE SEED: THE CARDS: each row of YtpgflfjmjppmeaaGreatDoorRows.lean that lists a variable, with what it lists TIED to the program's text (the seventh form; the later family's looks); each row that meets fmt, with fmt's text TOLD by the authors' own Lean function (tested against real Go, not proved from fmt's source: count such statements apart). THE CARD IS WHAT COUNTS. Prove the row's statement (the work); the ties are given (YtpgflfjmjppmeaaGreatDoorTie.lean); close each card by the builder's one call (the guide's Derived/Test/ToyasCard.lean, 'card_holds'). Laid BY PROGRAM, IN A SANDBOX (cutbox-door.mjs). By AI agents, Wed Nov 11 2026. No macro, syntax, notation, axiom, sorry.
-/
import Derived.Test.YtpgflfjmjppmeaaGreatDoorRows
import GoSem.ClaimSeven
namespace Go.Proofs.YtpgflfjmjppmeaaGreatDoor
namespace Rows

/-- THE TIED CARD OF 'vitrinelaw27.ShortParts'. -/
def shortPartsCard : Claim7 := { stood := { row := shortPartsRow, standIns := [], harness := (true, "2efdc81d0b45ba4bd2655f72c8ca8b6707d7859a7cac8ba879c0b24ac99d16ab"), looks := true }, kinds := [], alts := [], laidByText := true, laidKinds := [.data, .data, .data, .sentinel, .sentinel, .listed, .data], laidTests := true, laidLooks := .later }
def ShortPartsCardSaid : Prop := Claim7.holds Tryz.pinned (.plain (OpenSpec.ofChange shortPartsSpec)) shortPartsCard

/-- THE TIED CARD OF 'vitrinelaw27.ShortWritten'. -/
def shortWrittenCard : Claim7 := { stood := { row := shortWrittenRow, standIns := [], harness := (true, "2efdc81d0b45ba4bd2655f72c8ca8b6707d7859a7cac8ba879c0b24ac99d16ab"), looks := true }, kinds := [], alts := [], laidByText := true, laidKinds := [.data, .data, .data, .sentinel, .sentinel, .listed, .data], laidTests := true, laidLooks := .later }
def ShortWrittenCardSaid : Prop := Claim7.holds Tryz.pinned (.plain (OpenSpec.ofChange shortWrittenSpec)) shortWrittenCard

/-- THE TIED CARD OF 'vitrinelaw27.ShortMargins'. -/
def shortMarginsCard : Claim7 := { stood := { row := shortMarginsRow, standIns := [], harness := (true, "2efdc81d0b45ba4bd2655f72c8ca8b6707d7859a7cac8ba879c0b24ac99d16ab"), looks := true }, kinds := [], alts := [], laidByText := true, laidKinds := [.data, .data, .data, .sentinel, .sentinel, .listed, .data], laidTests := true, laidLooks := .later }
def ShortMarginsCardSaid : Prop := Claim7.holds Tryz.pinned (.plain (OpenSpec.ofChange shortMarginsSpec)) shortMarginsCard

/-- THE TIED CARD OF 'vitrinelaw27.ShortNames'. -/
def shortNamesCard : Claim7 := { stood := { row := shortNamesRow, standIns := [], harness := (true, "2efdc81d0b45ba4bd2655f72c8ca8b6707d7859a7cac8ba879c0b24ac99d16ab"), looks := true }, kinds := [], alts := [], laidByText := true, laidKinds := [.data, .data, .data, .sentinel, .sentinel, .listed, .data], laidTests := true, laidLooks := .later }
def ShortNamesCardSaid : Prop := Claim7.holds Tryz.pinned (.plain (OpenSpec.ofChange shortNamesSpec)) shortNamesCard

/-- THE TIED CARD OF 'vitrinelaw27.ShortValues'. -/
def shortValuesCard : Claim7 := { stood := { row := shortValuesRow, standIns := [], harness := (true, "2efdc81d0b45ba4bd2655f72c8ca8b6707d7859a7cac8ba879c0b24ac99d16ab"), looks := true }, kinds := [], alts := [], laidByText := true, laidKinds := [.data, .data, .data, .sentinel, .sentinel, .listed, .data], laidTests := true, laidLooks := .later }
def ShortValuesCardSaid : Prop := Claim7.holds Tryz.pinned (.plain (OpenSpec.ofChange shortValuesSpec)) shortValuesCard

/-- THE SECOND FORM's CARD OF 'vitrinelaw27.ShortParts'. -/
def shortPartsUptoCard : Claim7 := { stood := { row := shortPartsUptoRow, standIns := [], harness := (true, "2efdc81d0b45ba4bd2655f72c8ca8b6707d7859a7cac8ba879c0b24ac99d16ab"), looks := true }, kinds := [], alts := [], laidByText := true, laidKinds := [.data, .data, .data, .sentinel, .sentinel, .listed, .data], laidTests := true, laidLooks := .later }
def ShortPartsUptoCardSaid : Prop := Claim7.holds Tryz.pinned (.plain (OpenSpec.upto shortPartsSpec)) shortPartsUptoCard

/-- THE SECOND FORM's CARD OF 'vitrinelaw27.ShortWritten'. -/
def shortWrittenUptoCard : Claim7 := { stood := { row := shortWrittenUptoRow, standIns := [], harness := (true, "2efdc81d0b45ba4bd2655f72c8ca8b6707d7859a7cac8ba879c0b24ac99d16ab"), looks := true }, kinds := [], alts := [], laidByText := true, laidKinds := [.data, .data, .data, .sentinel, .sentinel, .listed, .data], laidTests := true, laidLooks := .later }
def ShortWrittenUptoCardSaid : Prop := Claim7.holds Tryz.pinned (.plain (OpenSpec.upto shortWrittenSpec)) shortWrittenUptoCard

/-- THE SECOND FORM's CARD OF 'vitrinelaw27.ShortMargins'. -/
def shortMarginsUptoCard : Claim7 := { stood := { row := shortMarginsUptoRow, standIns := [], harness := (true, "2efdc81d0b45ba4bd2655f72c8ca8b6707d7859a7cac8ba879c0b24ac99d16ab"), looks := true }, kinds := [], alts := [], laidByText := true, laidKinds := [.data, .data, .data, .sentinel, .sentinel, .listed, .data], laidTests := true, laidLooks := .later }
def ShortMarginsUptoCardSaid : Prop := Claim7.holds Tryz.pinned (.plain (OpenSpec.upto shortMarginsSpec)) shortMarginsUptoCard

/-- THE SECOND FORM's CARD OF 'vitrinelaw27.ShortNames'. -/
def shortNamesUptoCard : Claim7 := { stood := { row := shortNamesUptoRow, standIns := [], harness := (true, "2efdc81d0b45ba4bd2655f72c8ca8b6707d7859a7cac8ba879c0b24ac99d16ab"), looks := true }, kinds := [], alts := [], laidByText := true, laidKinds := [.data, .data, .data, .sentinel, .sentinel, .listed, .data], laidTests := true, laidLooks := .later }
def ShortNamesUptoCardSaid : Prop := Claim7.holds Tryz.pinned (.plain (OpenSpec.upto shortNamesSpec)) shortNamesUptoCard

/-- THE SECOND FORM's CARD OF 'vitrinelaw27.ShortValues'. -/
def shortValuesUptoCard : Claim7 := { stood := { row := shortValuesUptoRow, standIns := [], harness := (true, "2efdc81d0b45ba4bd2655f72c8ca8b6707d7859a7cac8ba879c0b24ac99d16ab"), looks := true }, kinds := [], alts := [], laidByText := true, laidKinds := [.data, .data, .data, .sentinel, .sentinel, .listed, .data], laidTests := true, laidLooks := .later }
def ShortValuesUptoCardSaid : Prop := Claim7.holds Tryz.pinned (.plain (OpenSpec.upto shortValuesSpec)) shortValuesUptoCard
end Rows
end Go.Proofs.YtpgflfjmjppmeaaGreatDoor

/-
  DERIVED. GIVEN WITH THE SEED: THE CARDS: each row of YtemchjneoalnoaaGreatDoorRows.lean that lists a variable, with what it lists TIED to the program's text (the seventh form; the later family's looks); each row that meets fmt, with fmt's text TOLD by the authors' own Lean function (tested against real Go, not proved from fmt's source: count such statements apart). THE CARD IS WHAT COUNTS. Prove the row's statement (the work); the ties are given (YtemchjneoalnoaaGreatDoorTie.lean); close each card by the builder's one call (the guide's Derived/Test/ToyasCard.lean, 'card_holds'). Laid BY PROGRAM, IN A SANDBOX (cutbox-door.mjs). By AI agents, Wed Nov 11 2026. No macro, syntax, notation, axiom, sorry.
-/
import Derived.Test.YtemchjneoalnoaaGreatDoorRows
import GoSem.ClaimSeven
namespace Go.Proofs.YtemchjneoalnoaaGreatDoor
namespace Rows

/-- THE TIED CARD OF 'vitrinelaw26.ParsevalCase'. -/
def parsevalCaseCard : Claim7 := { stood := { row := parsevalCaseRow, standIns := [], harness := (true, "fb19c8c18d3abb4adcf1d324b2099b0404f9bb687895ac6c0bd656c3d2b10a8d"), looks := true }, kinds := [], alts := [], laidByText := true, laidKinds := [.data, .data, .data, .sentinel, .sentinel, .listed, .data], laidTests := true, laidLooks := .later }
def ParsevalCaseCardSaid : Prop := Claim7.holds Tryz.pinned (.plain (OpenSpec.ofChange parsevalCaseSpec)) parsevalCaseCard

/-- THE TIED CARD OF 'vitrinelaw26.ParsevalColors'. -/
def parsevalColorsCard : Claim7 := { stood := { row := parsevalColorsRow, standIns := [], harness := (true, "fb19c8c18d3abb4adcf1d324b2099b0404f9bb687895ac6c0bd656c3d2b10a8d"), looks := true }, kinds := [], alts := [], laidByText := true, laidKinds := [.data, .data, .data, .sentinel, .sentinel, .listed, .data], laidTests := true, laidLooks := .later }
def ParsevalColorsCardSaid : Prop := Claim7.holds Tryz.pinned (.plain (OpenSpec.ofChange parsevalColorsSpec)) parsevalColorsCard

/-- THE TIED CARD OF 'vitrinelaw26.ParsevalNames'. -/
def parsevalNamesCard : Claim7 := { stood := { row := parsevalNamesRow, standIns := [], harness := (true, "fb19c8c18d3abb4adcf1d324b2099b0404f9bb687895ac6c0bd656c3d2b10a8d"), looks := true }, kinds := [], alts := [], laidByText := true, laidKinds := [.data, .data, .data, .data, .sentinel, .sentinel, .listed, .data, .pinned], laidTests := true, laidLooks := .later }
def ParsevalNamesCardSaid : Prop := Claim7.holds Tryz.pinned (.plain (OpenSpec.ofChange parsevalNamesSpec)) parsevalNamesCard

/-- THE TIED CARD OF 'vitrinelaw26.ParsevalBack'. -/
def parsevalBackCard : Claim7 := { stood := { row := parsevalBackRow, standIns := [], harness := (true, "fb19c8c18d3abb4adcf1d324b2099b0404f9bb687895ac6c0bd656c3d2b10a8d"), looks := true }, kinds := [], alts := [], laidByText := true, laidKinds := [.data, .data, .data, .data, .sentinel, .sentinel, .listed, .data, .pinned], laidTests := true, laidLooks := .later }
def ParsevalBackCardSaid : Prop := Claim7.holds Tryz.pinned (.plain (OpenSpec.ofChange parsevalBackSpec)) parsevalBackCard

/-- THE TIED CARD OF 'vitrinelaw26.ParsevalKept'. -/
def parsevalKeptCard : Claim7 := { stood := { row := parsevalKeptRow, standIns := [], harness := (true, "fb19c8c18d3abb4adcf1d324b2099b0404f9bb687895ac6c0bd656c3d2b10a8d"), looks := true }, kinds := [], alts := [], laidByText := true, laidKinds := [.data, .data, .data, .data, .sentinel, .sentinel, .listed, .data, .pinned], laidTests := true, laidLooks := .later }
def ParsevalKeptCardSaid : Prop := Claim7.holds Tryz.pinned (.plain (OpenSpec.ofChange parsevalKeptSpec)) parsevalKeptCard

/-- THE SECOND FORM's CARD OF 'vitrinelaw26.ParsevalCase'. -/
def parsevalCaseUptoCard : Claim7 := { stood := { row := parsevalCaseUptoRow, standIns := [], harness := (true, "fb19c8c18d3abb4adcf1d324b2099b0404f9bb687895ac6c0bd656c3d2b10a8d"), looks := true }, kinds := [], alts := [], laidByText := true, laidKinds := [.data, .data, .data, .sentinel, .sentinel, .listed, .data], laidTests := true, laidLooks := .later }
def ParsevalCaseUptoCardSaid : Prop := Claim7.holds Tryz.pinned (.plain (OpenSpec.upto parsevalCaseSpec)) parsevalCaseUptoCard

/-- THE SECOND FORM's CARD OF 'vitrinelaw26.ParsevalColors'. -/
def parsevalColorsUptoCard : Claim7 := { stood := { row := parsevalColorsUptoRow, standIns := [], harness := (true, "fb19c8c18d3abb4adcf1d324b2099b0404f9bb687895ac6c0bd656c3d2b10a8d"), looks := true }, kinds := [], alts := [], laidByText := true, laidKinds := [.data, .data, .data, .sentinel, .sentinel, .listed, .data], laidTests := true, laidLooks := .later }
def ParsevalColorsUptoCardSaid : Prop := Claim7.holds Tryz.pinned (.plain (OpenSpec.upto parsevalColorsSpec)) parsevalColorsUptoCard

/-- THE SECOND FORM's CARD OF 'vitrinelaw26.ParsevalNames'. -/
def parsevalNamesUptoCard : Claim7 := { stood := { row := parsevalNamesUptoRow, standIns := [], harness := (true, "fb19c8c18d3abb4adcf1d324b2099b0404f9bb687895ac6c0bd656c3d2b10a8d"), looks := true }, kinds := [], alts := [], laidByText := true, laidKinds := [.data, .data, .data, .data, .sentinel, .sentinel, .listed, .data, .pinned], laidTests := true, laidLooks := .later }
def ParsevalNamesUptoCardSaid : Prop := Claim7.holds Tryz.pinned (.plain (OpenSpec.upto parsevalNamesSpec)) parsevalNamesUptoCard

/-- THE SECOND FORM's CARD OF 'vitrinelaw26.ParsevalBack'. -/
def parsevalBackUptoCard : Claim7 := { stood := { row := parsevalBackUptoRow, standIns := [], harness := (true, "fb19c8c18d3abb4adcf1d324b2099b0404f9bb687895ac6c0bd656c3d2b10a8d"), looks := true }, kinds := [], alts := [], laidByText := true, laidKinds := [.data, .data, .data, .data, .sentinel, .sentinel, .listed, .data, .pinned], laidTests := true, laidLooks := .later }
def ParsevalBackUptoCardSaid : Prop := Claim7.holds Tryz.pinned (.plain (OpenSpec.upto parsevalBackSpec)) parsevalBackUptoCard

/-- THE SECOND FORM's CARD OF 'vitrinelaw26.ParsevalKept'. -/
def parsevalKeptUptoCard : Claim7 := { stood := { row := parsevalKeptUptoRow, standIns := [], harness := (true, "fb19c8c18d3abb4adcf1d324b2099b0404f9bb687895ac6c0bd656c3d2b10a8d"), looks := true }, kinds := [], alts := [], laidByText := true, laidKinds := [.data, .data, .data, .data, .sentinel, .sentinel, .listed, .data, .pinned], laidTests := true, laidLooks := .later }
def ParsevalKeptUptoCardSaid : Prop := Claim7.holds Tryz.pinned (.plain (OpenSpec.upto parsevalKeptSpec)) parsevalKeptUptoCard
end Rows
end Go.Proofs.YtemchjneoalnoaaGreatDoor

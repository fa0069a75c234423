/-
  DERIVED. GIVEN WITH THE SEED: THE CARDS: each row of YtfcnkhiohnjepaaDoorRows.lean that lists a variable, with what it lists TIED to the program's text (the seventh form; the later family's looks); each row that meets fmt, with fmt's text TOLD by the authors' own Lean function (tested against real Go, not proved from fmt's source: count such statements apart). THE CARD IS WHAT COUNTS. Prove the row's statement (the work); the ties are given (YtfcnkhiohnjepaaDoorTie.lean); close each card by the builder's one call (the guide's Derived/Test/ToyasCard.lean, 'card_holds'). Laid BY PROGRAM, IN A SANDBOX (cutbox-door.mjs). By AI agents, Wed Nov 11 2026. No macro, syntax, notation, axiom, sorry.
-/
import Derived.Test.YtfcnkhiohnjepaaDoorRows
import GoSem.ClaimSeven
namespace Go.Proofs.YtfcnkhiohnjepaaDoor
namespace Rows

/-- THE TIED CARD OF 'vitrinelaw25.PropsTells'. -/
def propsTellsCard : Claim7 := { stood := { row := propsTellsRow, standIns := [], harness := (true, "cada53a2208df03e7a908f2d33d4b2c4091b50f3cb5b434e9de36b0292f1644e"), looks := false }, kinds := [], alts := [], laidByText := true, laidKinds := [.listed, .data], laidTests := true, laidLooks := .later }
def PropsTellsCardSaid : Prop := Claim7.holds Tryd.pinned (.plain (OpenSpec.ofChange propsTellsSpec)) propsTellsCard

/-- THE TIED CARD OF 'vitrinelaw25.PropsNames'. -/
def propsNamesCard : Claim7 := { stood := { row := propsNamesRow, standIns := [], harness := (true, "cada53a2208df03e7a908f2d33d4b2c4091b50f3cb5b434e9de36b0292f1644e"), looks := false }, kinds := [], alts := [], laidByText := true, laidKinds := [.listed, .data], laidTests := true, laidLooks := .later }
def PropsNamesCardSaid : Prop := Claim7.holds Tryd.pinned (.plain (OpenSpec.ofChange propsNamesSpec)) propsNamesCard

/-- THE TIED CARD OF 'vitrinelaw25.PropsInitial'. -/
def propsInitialCard : Claim7 := { stood := { row := propsInitialRow, standIns := [], harness := (true, "cada53a2208df03e7a908f2d33d4b2c4091b50f3cb5b434e9de36b0292f1644e"), looks := false }, kinds := [], alts := [], laidByText := true, laidKinds := [.listed, .data], laidTests := true, laidLooks := .later }
def PropsInitialCardSaid : Prop := Claim7.holds Tryd.pinned (.plain (OpenSpec.ofChange propsInitialSpec)) propsInitialCard

/-- THE TIED CARD OF 'vitrinelaw25.PropsOwn'. -/
def propsOwnCard : Claim7 := { stood := { row := propsOwnRow, standIns := [], harness := (true, "cada53a2208df03e7a908f2d33d4b2c4091b50f3cb5b434e9de36b0292f1644e"), looks := false }, kinds := [], alts := [], laidByText := true, laidKinds := [.listed, .data], laidTests := true, laidLooks := .later }
def PropsOwnCardSaid : Prop := Claim7.holds Tryd.pinned (.plain (OpenSpec.ofChange propsOwnSpec)) propsOwnCard

/-- THE TIED CARD OF 'vitrinelaw25.PropsHas'. -/
def propsHasCard : Claim7 := { stood := { row := propsHasRow, standIns := [], harness := (true, "cada53a2208df03e7a908f2d33d4b2c4091b50f3cb5b434e9de36b0292f1644e"), looks := false }, kinds := [], alts := [], laidByText := true, laidKinds := [.listed, .data], laidTests := true, laidLooks := .later }
def PropsHasCardSaid : Prop := Claim7.holds Tryd.pinned (.plain (OpenSpec.ofChange propsHasSpec)) propsHasCard

/-- THE TIED CARD OF 'vitrinelaw25.PropsCustom'. -/
def propsCustomCard : Claim7 := { stood := { row := propsCustomRow, standIns := [], harness := (true, "cada53a2208df03e7a908f2d33d4b2c4091b50f3cb5b434e9de36b0292f1644e"), looks := false }, kinds := [], alts := [], laidByText := true, laidKinds := [.listed, .data], laidTests := true, laidLooks := .later }
def PropsCustomCardSaid : Prop := Claim7.holds Tryd.pinned (.plain (OpenSpec.ofChange propsCustomSpec)) propsCustomCard

/-- THE SECOND FORM's CARD OF 'vitrinelaw25.PropsTells'. -/
def propsTellsUptoCard : Claim7 := { stood := { row := propsTellsUptoRow, standIns := [], harness := (true, "cada53a2208df03e7a908f2d33d4b2c4091b50f3cb5b434e9de36b0292f1644e"), looks := false }, kinds := [], alts := [], laidByText := true, laidKinds := [.listed, .data], laidTests := true, laidLooks := .later }
def PropsTellsUptoCardSaid : Prop := Claim7.holds Tryd.pinned (.plain (OpenSpec.upto propsTellsSpec)) propsTellsUptoCard

/-- THE SECOND FORM's CARD OF 'vitrinelaw25.PropsNames'. -/
def propsNamesUptoCard : Claim7 := { stood := { row := propsNamesUptoRow, standIns := [], harness := (true, "cada53a2208df03e7a908f2d33d4b2c4091b50f3cb5b434e9de36b0292f1644e"), looks := false }, kinds := [], alts := [], laidByText := true, laidKinds := [.listed, .data], laidTests := true, laidLooks := .later }
def PropsNamesUptoCardSaid : Prop := Claim7.holds Tryd.pinned (.plain (OpenSpec.upto propsNamesSpec)) propsNamesUptoCard

/-- THE SECOND FORM's CARD OF 'vitrinelaw25.PropsInitial'. -/
def propsInitialUptoCard : Claim7 := { stood := { row := propsInitialUptoRow, standIns := [], harness := (true, "cada53a2208df03e7a908f2d33d4b2c4091b50f3cb5b434e9de36b0292f1644e"), looks := false }, kinds := [], alts := [], laidByText := true, laidKinds := [.listed, .data], laidTests := true, laidLooks := .later }
def PropsInitialUptoCardSaid : Prop := Claim7.holds Tryd.pinned (.plain (OpenSpec.upto propsInitialSpec)) propsInitialUptoCard

/-- THE SECOND FORM's CARD OF 'vitrinelaw25.PropsOwn'. -/
def propsOwnUptoCard : Claim7 := { stood := { row := propsOwnUptoRow, standIns := [], harness := (true, "cada53a2208df03e7a908f2d33d4b2c4091b50f3cb5b434e9de36b0292f1644e"), looks := false }, kinds := [], alts := [], laidByText := true, laidKinds := [.listed, .data], laidTests := true, laidLooks := .later }
def PropsOwnUptoCardSaid : Prop := Claim7.holds Tryd.pinned (.plain (OpenSpec.upto propsOwnSpec)) propsOwnUptoCard

/-- THE SECOND FORM's CARD OF 'vitrinelaw25.PropsHas'. -/
def propsHasUptoCard : Claim7 := { stood := { row := propsHasUptoRow, standIns := [], harness := (true, "cada53a2208df03e7a908f2d33d4b2c4091b50f3cb5b434e9de36b0292f1644e"), looks := false }, kinds := [], alts := [], laidByText := true, laidKinds := [.listed, .data], laidTests := true, laidLooks := .later }
def PropsHasUptoCardSaid : Prop := Claim7.holds Tryd.pinned (.plain (OpenSpec.upto propsHasSpec)) propsHasUptoCard

/-- THE SECOND FORM's CARD OF 'vitrinelaw25.PropsCustom'. -/
def propsCustomUptoCard : Claim7 := { stood := { row := propsCustomUptoRow, standIns := [], harness := (true, "cada53a2208df03e7a908f2d33d4b2c4091b50f3cb5b434e9de36b0292f1644e"), looks := false }, kinds := [], alts := [], laidByText := true, laidKinds := [.listed, .data], laidTests := true, laidLooks := .later }
def PropsCustomUptoCardSaid : Prop := Claim7.holds Tryd.pinned (.plain (OpenSpec.upto propsCustomSpec)) propsCustomUptoCard
end Rows
end Go.Proofs.YtfcnkhiohnjepaaDoor

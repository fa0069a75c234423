/-
  DERIVED. GIVEN WITH THE SEED: THE CARDS: each row of YtbealjlgbfpadaaDoorRows.lean that lists a variable, with what it lists TIED to the program's text (the seventh form; the later family's looks); each row that meets fmt, with fmt's text TOLD by the authors' own Lean function (tested against real Go, not proved from fmt's source: count such statements apart). THE CARD IS WHAT COUNTS. Prove the row's statement (the work); the ties are given (YtbealjlgbfpadaaDoorTie.lean); close each card by the builder's one call (the guide's Derived/Test/ToyasCard.lean, 'card_holds'). Laid BY PROGRAM, IN A SANDBOX (cutbox-door.mjs). By AI agents, Wed Nov 11 2026. No macro, syntax, notation, axiom, sorry.
-/
import Derived.Test.YtbealjlgbfpadaaDoorRows
import GoSem.ClaimSeven
namespace Go.Proofs.YtbealjlgbfpadaaDoor
namespace Rows

/-- THE TIED CARD OF 'vitrinelaw06.FixedReads'. -/
def fixedReadsCard : Claim7 := { stood := { row := fixedReadsRow, standIns := [], harness := (true, "56d80e41c3107f9bcaddbb0125e9078fcc11731222595c94384ff52e5d349dce"), looks := false }, kinds := [], alts := [], laidByText := true, laidKinds := [.data, .pinned], laidTests := true, laidLooks := .later }
def FixedReadsCardSaid : Prop := Claim7.holds Tryd.pinned (.plain (OpenSpec.ofChange fixedReadsSpec)) fixedReadsCard

/-- THE TIED CARD OF 'vitrinelaw06.FixedBack'. -/
def fixedBackCard : Claim7 := { stood := { row := fixedBackRow, standIns := [], harness := (true, "56d80e41c3107f9bcaddbb0125e9078fcc11731222595c94384ff52e5d349dce"), looks := false }, kinds := [], alts := [], laidByText := true, laidKinds := [.data, .pinned], laidTests := true, laidLooks := .later }
def FixedBackCardSaid : Prop := Claim7.holds Tryd.pinned (.plain (OpenSpec.ofChange fixedBackSpec)) fixedBackCard

/-- THE TIED CARD OF 'vitrinelaw06.FixedNames'. -/
def fixedNamesCard : Claim7 := { stood := { row := fixedNamesRow, standIns := [], harness := (true, "56d80e41c3107f9bcaddbb0125e9078fcc11731222595c94384ff52e5d349dce"), looks := false }, kinds := [], alts := [], laidByText := true, laidKinds := [.data, .pinned], laidTests := true, laidLooks := .later }
def FixedNamesCardSaid : Prop := Claim7.holds Tryd.pinned (.plain (OpenSpec.ofChange fixedNamesSpec)) fixedNamesCard

/-- THE SECOND FORM's CARD OF 'vitrinelaw06.FixedReads'. -/
def fixedReadsUptoCard : Claim7 := { stood := { row := fixedReadsUptoRow, standIns := [], harness := (true, "56d80e41c3107f9bcaddbb0125e9078fcc11731222595c94384ff52e5d349dce"), looks := false }, kinds := [], alts := [], laidByText := true, laidKinds := [.data, .pinned], laidTests := true, laidLooks := .later }
def FixedReadsUptoCardSaid : Prop := Claim7.holds Tryd.pinned (.plain (OpenSpec.upto fixedReadsSpec)) fixedReadsUptoCard

/-- THE SECOND FORM's CARD OF 'vitrinelaw06.FixedBack'. -/
def fixedBackUptoCard : Claim7 := { stood := { row := fixedBackUptoRow, standIns := [], harness := (true, "56d80e41c3107f9bcaddbb0125e9078fcc11731222595c94384ff52e5d349dce"), looks := false }, kinds := [], alts := [], laidByText := true, laidKinds := [.data, .pinned], laidTests := true, laidLooks := .later }
def FixedBackUptoCardSaid : Prop := Claim7.holds Tryd.pinned (.plain (OpenSpec.upto fixedBackSpec)) fixedBackUptoCard

/-- THE SECOND FORM's CARD OF 'vitrinelaw06.FixedNames'. -/
def fixedNamesUptoCard : Claim7 := { stood := { row := fixedNamesUptoRow, standIns := [], harness := (true, "56d80e41c3107f9bcaddbb0125e9078fcc11731222595c94384ff52e5d349dce"), looks := false }, kinds := [], alts := [], laidByText := true, laidKinds := [.data, .pinned], laidTests := true, laidLooks := .later }
def FixedNamesUptoCardSaid : Prop := Claim7.holds Tryd.pinned (.plain (OpenSpec.upto fixedNamesSpec)) fixedNamesUptoCard
end Rows
end Go.Proofs.YtbealjlgbfpadaaDoor

/-
  DERIVED. GIVEN WITH THE SEED: THE CARDS: each row of YtemchjneoalnoaaDoorRows.lean that lists a variable, with what it lists TIED to the program's text (the seventh form; the later family's looks); each row that meets fmt, with fmt's text TOLD by the authors' own Lean function (tested against real Go, not proved from fmt's source: count such statements apart). THE CARD IS WHAT COUNTS. Prove the row's statement (the work); the ties are given (YtemchjneoalnoaaDoorTie.lean); close each card by the builder's one call (the guide's Derived/Test/ToyasCard.lean, 'card_holds'). Laid BY PROGRAM, IN A SANDBOX (cutbox-door.mjs). By AI agents, Wed Nov 11 2026. No macro, syntax, notation, axiom, sorry.
-/
import Derived.Test.YtemchjneoalnoaaDoorRows
import GoSem.ClaimSeven
namespace Go.Proofs.YtemchjneoalnoaaDoor
namespace Rows

/-- THE TIED CARD OF 'vitrinelaw26.ParsevalWrites'. -/
def parsevalWritesCard : Claim7 := { stood := { row := parsevalWritesRow, standIns := [], harness := (true, "c0b783f645ac3a36580764abf632caed77b9b96ce9717d15248a5936f3bc2f65"), looks := false }, kinds := [], alts := [], laidByText := true, laidKinds := [.data, .data, .data, .data, .pinned], laidTests := true, laidLooks := .later }
def ParsevalWritesCardSaid : Prop := Claim7.holds Tryd.pinned (.plain (OpenSpec.ofChange parsevalWritesSpec)) parsevalWritesCard

/-- THE SECOND FORM's CARD OF 'vitrinelaw26.ParsevalWrites'. -/
def parsevalWritesUptoCard : Claim7 := { stood := { row := parsevalWritesUptoRow, standIns := [], harness := (true, "c0b783f645ac3a36580764abf632caed77b9b96ce9717d15248a5936f3bc2f65"), looks := false }, kinds := [], alts := [], laidByText := true, laidKinds := [.data, .data, .data, .data, .pinned], laidTests := true, laidLooks := .later }
def ParsevalWritesUptoCardSaid : Prop := Claim7.holds Tryd.pinned (.plain (OpenSpec.upto parsevalWritesSpec)) parsevalWritesUptoCard
end Rows
end Go.Proofs.YtemchjneoalnoaaDoor

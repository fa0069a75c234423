/-
  DERIVED. GIVEN WITH THE SEED: THE CARDS: each row of YtehlikdeobajcaaGreatDoorRows.lean that lists a variable, with what it lists TIED to the program's text (the seventh form; the later family's looks); each row that meets fmt, with fmt's text TOLD by the authors' own Lean function (tested against real Go, not proved from fmt's source: count such statements apart). THE CARD IS WHAT COUNTS. Prove the row's statement (the work); the ties are given (YtehlikdeobajcaaGreatDoorTie.lean); close each card by the builder's one call (the guide's Derived/Test/ToyasCard.lean, 'card_holds'). Laid BY PROGRAM, IN A SANDBOX (cutbox-door.mjs). By AI agents, Wed Nov 11 2026. No macro, syntax, notation, axiom, sorry.
-/
import Derived.Test.YtehlikdeobajcaaGreatDoorRows
import GoSem.ClaimSeven
namespace Go.Proofs.YtehlikdeobajcaaGreatDoor
namespace Rows

/-- THE TIED CARD OF 'vitrinelaw31.WideApart'. -/
def wideApartCard : Claim7 := { stood := { row := wideApartRow, standIns := [], harness := (true, "7a5d1c74066c66f5e1d777c99753f9db4123d631b04045f0b4242ee0724393d1"), looks := false }, kinds := [], alts := [], laidByText := true, laidKinds := [.listed, .data], laidTests := true, laidLooks := .later }
def WideApartCardSaid : Prop := Claim7.holds Tryz.pinned (.plain (OpenSpec.ofChange wideApartSpec)) wideApartCard

/-- THE TIED CARD OF 'vitrinelaw31.WideSays'. -/
def wideSaysCard : Claim7 := { stood := { row := wideSaysRow, standIns := [], harness := (true, "7a5d1c74066c66f5e1d777c99753f9db4123d631b04045f0b4242ee0724393d1"), looks := false }, kinds := [], alts := [], laidByText := true, laidKinds := [.listed, .data], laidTests := true, laidLooks := .later }
def WideSaysCardSaid : Prop := Claim7.holds Tryz.pinned (.plain (OpenSpec.ofChange wideSaysSpec)) wideSaysCard

/-- THE TIED CARD OF 'vitrinelaw31.WideLesser'. -/
def wideLesserCard : Claim7 := { stood := { row := wideLesserRow, standIns := [], harness := (true, "7a5d1c74066c66f5e1d777c99753f9db4123d631b04045f0b4242ee0724393d1"), looks := false }, kinds := [], alts := [], laidByText := true, laidKinds := [.listed, .data], laidTests := true, laidLooks := .later }
def WideLesserCardSaid : Prop := Claim7.holds Tryz.pinned (.plain (OpenSpec.ofChange wideLesserSpec)) wideLesserCard

/-- THE SECOND FORM's CARD OF 'vitrinelaw31.WideApart'. -/
def wideApartUptoCard : Claim7 := { stood := { row := wideApartUptoRow, standIns := [], harness := (true, "7a5d1c74066c66f5e1d777c99753f9db4123d631b04045f0b4242ee0724393d1"), looks := false }, kinds := [], alts := [], laidByText := true, laidKinds := [.listed, .data], laidTests := true, laidLooks := .later }
def WideApartUptoCardSaid : Prop := Claim7.holds Tryz.pinned (.plain (OpenSpec.upto wideApartSpec)) wideApartUptoCard

/-- THE SECOND FORM's CARD OF 'vitrinelaw31.WideSays'. -/
def wideSaysUptoCard : Claim7 := { stood := { row := wideSaysUptoRow, standIns := [], harness := (true, "7a5d1c74066c66f5e1d777c99753f9db4123d631b04045f0b4242ee0724393d1"), looks := false }, kinds := [], alts := [], laidByText := true, laidKinds := [.listed, .data], laidTests := true, laidLooks := .later }
def WideSaysUptoCardSaid : Prop := Claim7.holds Tryz.pinned (.plain (OpenSpec.upto wideSaysSpec)) wideSaysUptoCard

/-- THE SECOND FORM's CARD OF 'vitrinelaw31.WideLesser'. -/
def wideLesserUptoCard : Claim7 := { stood := { row := wideLesserUptoRow, standIns := [], harness := (true, "7a5d1c74066c66f5e1d777c99753f9db4123d631b04045f0b4242ee0724393d1"), looks := false }, kinds := [], alts := [], laidByText := true, laidKinds := [.listed, .data], laidTests := true, laidLooks := .later }
def WideLesserUptoCardSaid : Prop := Claim7.holds Tryz.pinned (.plain (OpenSpec.upto wideLesserSpec)) wideLesserUptoCard
end Rows
end Go.Proofs.YtehlikdeobajcaaGreatDoor

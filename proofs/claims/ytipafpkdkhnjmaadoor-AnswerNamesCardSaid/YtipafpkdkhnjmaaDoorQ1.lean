/-
  Answers as text: what is written, by both writers. No program in sight.
-/
import Derived.Test.YtipafpkdkhnjmaaDoorVP
import Derived.Test.YtipafpkdkhnjmaaDoorM
set_option linter.unusedVariables false
set_option maxRecDepth 100000
namespace Go.Proofs.YtipafpkdkhnjmaaDoor
open Go Go.V Go.RowKit
/-! ## Bytes -/
/-- A digit to the base 16. -/
def hexD (n : Nat) : UInt8 := if n < 10 then UInt8.ofNat (48 + n) else UInt8.ofNat (87 + n)
/-- How a byte stands in quotes. -/
def ch (b : UInt8) : Str :=
  if b.toNat = 34 ∨ b.toNat = 92 then [92, b] else if b.toNat = 10 then [92, 110] else if 32 ≤ b.toNat ∧ b.toNat ≤ 126 then [b] else [92, 120, hexD (b.toNat / 16), hexD (b.toNat % 16)]
/-! ## Quotes -/
theorem ofB_app (a b : Str) : ofB (a ++ b) = ofB a ++ ofB b := List.map_append ..
/-! ## Lists -/
def tot (l : List Str) : Nat := (l.map List.length).sum
theorem tot_cons (x : Str) (l : List Str) : tot (x :: l) = x.length + tot l := by simp [tot]
end Go.Proofs.YtipafpkdkhnjmaaDoor

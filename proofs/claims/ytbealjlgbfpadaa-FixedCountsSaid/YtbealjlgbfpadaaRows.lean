/-
  No cell of these rows narrows 'for every input' (looked for: loops, veiled, ifaces, maps, wideKeys, modest, calm, conditions, laid).
  DERIVED. THE GIVEN ROWS OF THIS SEAT. 4 by the template 'for every input the law returns true; each argument reads behind the call as it read before'; 0 by the template 'total and deterministic' (their statements: YtbealjlgbfpadaaTotals.lean).
  GIVEN WITH THE SEED: the statements are not yours to turn. If you find one false, say at which input.
  Laid BY PROGRAM, IN A SANDBOX (cutbox-rows.mjs): the forced cells as the released guide's own fill.sh prints them over the translation dfafe18426ef386d… (all of the seat's roots in one cut). By AI agents, Wed Nov 11 2026. No macro, syntax, notation, axiom, sorry.
-/
import Derived.Test.YtbealjlgbfpadaaChecked
import GoSem.Claim
import GoSem.ClaimJoined
import GoSem.ClaimMapViews
import Derived.JoinedTies
import Derived.KernelRfl
namespace Go.Proofs.Ytbealjlgbfpadaa
/- THE CELL 'sum', in the pinned program and in every row, IS THE sha256 OF THE DUMP (.gsa) THAT YtbealjlgbfpadaaProg.lean LOADS. Nothing in Lean hashes anything: it is a label: what it is worth is what the hold of that sum in a sandbox is worth. -/
noncomputable def Try.pinned : Pinned := { name := "ytbealjlgbfpadaa", sum := "dfafe18426ef386dcbb58f29225ba9ad3e5f913e9afd6f68eb27b7f0c56c1faa", checked := Try.checked }
namespace Rows
def none {H : Type} : Left H := { results := [], args := [] }

/-- 'vitrinelaw06.FixedCounts': WHATEVER THE INPUT: true; the input reads as it did. -/
def fixedCountsSpec : ChangeSpec := { name := "fixedCounts", fn := fun _ => fun
  | [d1, d2, d3, d4] => { results := [.lit (.bool true)], args := [d1, d2, d3, d4] }
  | _ => none }
def fixedCountsRow : OpenClaim := { program := "ytbealjlgbfpadaa", sum := "dfafe18426ef386dcbb58f29225ba9ad3e5f913e9afd6f68eb27b7f0c56c1faa", func := "vitrine/vitrinelaw06.FixedCounts", spec := "fixedCounts", recurses := true, named := ["math/bits.divideError", "math/bits.overflowError"], apart := false }
def FixedCountsSaid : Prop := fixedCountsRow.holds Try.pinned (OpenSpec.ofChange fixedCountsSpec)

/-- ITS FALSE NEIGHBOUR: 'it returns false'. Refute it at one input. -/
def fixedCountsWrong : ChangeSpec := { name := "fixedCounts", fn := fun _ => fun
  | [d1, d2, d3, d4] => { results := [.lit (.bool false)], args := [d1, d2, d3, d4] }
  | _ => none }
def FixedCountsWrongFalsely : Prop := fixedCountsRow.holds Try.pinned (OpenSpec.ofChange fixedCountsWrong)

/-- 'vitrinelaw06.FixedOrder': WHATEVER THE INPUT: true; the input reads as it did. -/
def fixedOrderSpec : ChangeSpec := { name := "fixedOrder", fn := fun _ => fun
  | [d1, d2, d3] => { results := [.lit (.bool true)], args := [d1, d2, d3] }
  | _ => none }
def fixedOrderRow : OpenClaim := { program := "ytbealjlgbfpadaa", sum := "dfafe18426ef386dcbb58f29225ba9ad3e5f913e9afd6f68eb27b7f0c56c1faa", func := "vitrine/vitrinelaw06.FixedOrder", spec := "fixedOrder", unfollowed := true, recurses := true, named := ["math/bits.divideError", "math/bits.overflowError"], apart := false }
def FixedOrderSaid : Prop := fixedOrderRow.holds Try.pinned (OpenSpec.ofChange fixedOrderSpec)

/-- ITS FALSE NEIGHBOUR: 'it returns false'. Refute it at one input. -/
def fixedOrderWrong : ChangeSpec := { name := "fixedOrder", fn := fun _ => fun
  | [d1, d2, d3] => { results := [.lit (.bool false)], args := [d1, d2, d3] }
  | _ => none }
def FixedOrderWrongFalsely : Prop := fixedOrderRow.holds Try.pinned (OpenSpec.ofChange fixedOrderWrong)

/-- 'vitrinelaw06.FixedParts': WHATEVER THE INPUT: true; the input reads as it did. -/
def fixedPartsSpec : ChangeSpec := { name := "fixedParts", fn := fun _ => fun
  | [d1, d2] => { results := [.lit (.bool true)], args := [d1, d2] }
  | _ => none }
def fixedPartsRow : OpenClaim := { program := "ytbealjlgbfpadaa", sum := "dfafe18426ef386dcbb58f29225ba9ad3e5f913e9afd6f68eb27b7f0c56c1faa", func := "vitrine/vitrinelaw06.FixedParts", spec := "fixedParts", unfollowed := true, recurses := true, named := ["math/bits.divideError", "math/bits.overflowError"], apart := false }
def FixedPartsSaid : Prop := fixedPartsRow.holds Try.pinned (OpenSpec.ofChange fixedPartsSpec)

/-- ITS FALSE NEIGHBOUR: 'it returns false'. Refute it at one input. -/
def fixedPartsWrong : ChangeSpec := { name := "fixedParts", fn := fun _ => fun
  | [d1, d2] => { results := [.lit (.bool false)], args := [d1, d2] }
  | _ => none }
def FixedPartsWrongFalsely : Prop := fixedPartsRow.holds Try.pinned (OpenSpec.ofChange fixedPartsWrong)

/-- 'vitrinelaw06.FixedWithin': WHATEVER THE INPUT: true; the input reads as it did. -/
def fixedWithinSpec : ChangeSpec := { name := "fixedWithin", fn := fun _ => fun
  | [d1, d2, d3] => { results := [.lit (.bool true)], args := [d1, d2, d3] }
  | _ => none }
def fixedWithinRow : OpenClaim := { program := "ytbealjlgbfpadaa", sum := "dfafe18426ef386dcbb58f29225ba9ad3e5f913e9afd6f68eb27b7f0c56c1faa", func := "vitrine/vitrinelaw06.FixedWithin", spec := "fixedWithin", unfollowed := true, recurses := true, named := ["math/bits.divideError", "math/bits.overflowError"], apart := false }
def FixedWithinSaid : Prop := fixedWithinRow.holds Try.pinned (OpenSpec.ofChange fixedWithinSpec)

/-- ITS FALSE NEIGHBOUR: 'it returns false'. Refute it at one input. -/
def fixedWithinWrong : ChangeSpec := { name := "fixedWithin", fn := fun _ => fun
  | [d1, d2, d3] => { results := [.lit (.bool false)], args := [d1, d2, d3] }
  | _ => none }
def FixedWithinWrongFalsely : Prop := fixedWithinRow.holds Try.pinned (OpenSpec.ofChange fixedWithinWrong)

/- THE SECOND FORM. 'bulk': how many values and letters a reading holds, each counted each time it is reached (what is shared counts as often as it is met; a slice's spare places count too). A statement '..UptoSaid' is the law's where the arguments, and the package variables that the reading takes, are together of bulk at most 1048576: NARROWER than '..Said'. Prove '..Said' where nothing that the law and all that it calls make is longer than what came in: it says more and counts as full. Else prove '..UptoSaid'. A law counts once. -/
mutual
def uptoBulk {H : Type} : DataW H → Nat
  | .lit (.string bytes) => bytes.length + 1
  | .lit _ => 1
  | .nil => 1
  | .ptr d => uptoBulk d + 1
  | .slice elems spare => uptoBulkAll elems + uptoBulkAll spare + 1
  | .agg parts => uptoBulkAll parts + 1
  | .iface _ d => uptoBulk d + 1
  | .map entries => uptoBulkEntries entries + 1
  | .held _ => 1
def uptoBulkAll {H : Type} : List (DataW H) → Nat
  | [] => 0
  | d :: r => uptoBulk d + uptoBulkAll r
def uptoBulkEntries {H : Type} : List (Lit × DataW H) → Nat
  | [] => 0
  | x :: r => uptoBulkEntry x + uptoBulkEntries r
def uptoBulkEntry {H : Type} : Lit × DataW H → Nat
  | (.string bytes, d) => bytes.length + uptoBulk d + 1
  | (_, d) => uptoBulk d + 1
 end
def uptoSmall : (H : Type) → List (DataW H) → Bool := fun _ ds => decide (uptoBulkAll ds ≤ 1048576)
def OpenSpec.upto (s : _root_.Go.ChangeSpec) : _root_.Go.OpenSpec := { _root_.Go.OpenSpec.ofChange s with cond := some uptoSmall }

/-- 'vitrinelaw06.FixedCounts', WHERE WHAT IT READS IS OF BULK AT MOST 1048576: true; the input reads as it did. -/
def fixedCountsUptoRow : OpenClaim := { program := "ytbealjlgbfpadaa", sum := "dfafe18426ef386dcbb58f29225ba9ad3e5f913e9afd6f68eb27b7f0c56c1faa", func := "vitrine/vitrinelaw06.FixedCounts", spec := "fixedCounts", recurses := true, named := ["math/bits.divideError", "math/bits.overflowError"], apart := false, narrowed := true }
def FixedCountsUptoSaid : Prop := fixedCountsUptoRow.holds Try.pinned (OpenSpec.upto fixedCountsSpec)

/-- 'vitrinelaw06.FixedOrder', WHERE WHAT IT READS IS OF BULK AT MOST 1048576: true; the input reads as it did. -/
def fixedOrderUptoRow : OpenClaim := { program := "ytbealjlgbfpadaa", sum := "dfafe18426ef386dcbb58f29225ba9ad3e5f913e9afd6f68eb27b7f0c56c1faa", func := "vitrine/vitrinelaw06.FixedOrder", spec := "fixedOrder", unfollowed := true, recurses := true, named := ["math/bits.divideError", "math/bits.overflowError"], apart := false, narrowed := true }
def FixedOrderUptoSaid : Prop := fixedOrderUptoRow.holds Try.pinned (OpenSpec.upto fixedOrderSpec)

/-- 'vitrinelaw06.FixedParts', WHERE WHAT IT READS IS OF BULK AT MOST 1048576: true; the input reads as it did. -/
def fixedPartsUptoRow : OpenClaim := { program := "ytbealjlgbfpadaa", sum := "dfafe18426ef386dcbb58f29225ba9ad3e5f913e9afd6f68eb27b7f0c56c1faa", func := "vitrine/vitrinelaw06.FixedParts", spec := "fixedParts", unfollowed := true, recurses := true, named := ["math/bits.divideError", "math/bits.overflowError"], apart := false, narrowed := true }
def FixedPartsUptoSaid : Prop := fixedPartsUptoRow.holds Try.pinned (OpenSpec.upto fixedPartsSpec)

/-- 'vitrinelaw06.FixedWithin', WHERE WHAT IT READS IS OF BULK AT MOST 1048576: true; the input reads as it did. -/
def fixedWithinUptoRow : OpenClaim := { program := "ytbealjlgbfpadaa", sum := "dfafe18426ef386dcbb58f29225ba9ad3e5f913e9afd6f68eb27b7f0c56c1faa", func := "vitrine/vitrinelaw06.FixedWithin", spec := "fixedWithin", unfollowed := true, recurses := true, named := ["math/bits.divideError", "math/bits.overflowError"], apart := false, narrowed := true }
def FixedWithinUptoSaid : Prop := fixedWithinUptoRow.holds Try.pinned (OpenSpec.upto fixedWithinSpec)

end Rows
end Go.Proofs.Ytbealjlgbfpadaa

/-
 'copy' into a slice of the call's own, and parts of it that are seen alone. Nothing here is a statement of this claim.
-/
import Derived.Test.YtpgflfjmjppmeaaGreatDoorO
import Derived.Laws.IdiomCopy
namespace Go.V
open Go Go.RowKit
variable {D : List Deferred}
theorem add_zero' (x : Addr) : x.add 0 = x := by unfold Addr.add; split <;> simp_all
section
variable {P : Program} {a : Act} {w : World} {n : Nat} {l : SF} {M : Av}
end
section
variable {P : Program} {a : Act} {w : World} {n : Nat} {l : SF} {M : Av}
end
end Go.V

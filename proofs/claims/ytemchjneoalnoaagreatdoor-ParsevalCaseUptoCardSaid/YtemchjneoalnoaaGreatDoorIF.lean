/-
 strconv.FormatInt at base 10 by the shelf's contract. Nothing here is a statement of this claim.
-/
import Derived.Test.YtemchjneoalnoaaGreatDoorI
set_option linter.unusedVariables false
namespace Go.Proofs.YtemchjneoalnoaaGreatDoor
open Go Go.V Go.RowKit
def x_FormatInt10 (n : Int) : Option Str := chk (-9223372036854775808 ≤ n ∧ n ≤ 9223372036854775807) (some (itoaS n))
end Go.Proofs.YtemchjneoalnoaaGreatDoor

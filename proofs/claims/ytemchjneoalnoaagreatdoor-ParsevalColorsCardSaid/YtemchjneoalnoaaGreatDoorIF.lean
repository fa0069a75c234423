/-
 strconv.FormatInt at base 10 by the shelf's contract. Nothing here is a statement of this claim.
-/
import Derived.Test.YtemchjneoalnoaaGreatDoorI
set_option linter.unusedVariables false
namespace Go.Proofs.YtemchjneoalnoaaGreatDoor
open Go Go.V Go.RowKit
end Go.Proofs.YtemchjneoalnoaaGreatDoor

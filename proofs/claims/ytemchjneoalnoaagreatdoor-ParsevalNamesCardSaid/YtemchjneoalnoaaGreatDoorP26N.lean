/-
  ParsevalNames: the model comes to 'true'. No program in sight.
-/
import Derived.Test.YtemchjneoalnoaaGreatDoorW26nd
import Derived.KernelRfl
set_option linter.unusedVariables false
set_option maxRecDepth 100000
namespace Go.Proofs.YtemchjneoalnoaaGreatDoor
open Go Go.V Go.RowKit
theorem plain_ParsevalNames : law26_ParsevalNames 100 = some true := by kernel_rfl
end Go.Proofs.YtemchjneoalnoaaGreatDoor

/-
 LayersNames: the model comes to 'true'. No program in sight.
-/
import Derived.Test.YtebkjhhhdgbloaaGreatDoorL28d
set_option maxRecDepth 100000
namespace Go.Proofs.YtebkjhhhdgbloaaGreatDoor
open Go Go.V Go.RowKit
theorem plain_LayersNames : law28_LayersNames 200 = some true := by kernel_rfl
end Go.Proofs.YtebkjhhhdgbloaaGreatDoor

/-
 ShortNames: the model comes to 'true'. No program in sight.
-/
import Derived.Test.YtpgflfjmjppmeaaGreatDoorM
set_option maxRecDepth 100000
namespace Go.Proofs.YtpgflfjmjppmeaaGreatDoor
open Go Go.V Go.RowKit
theorem plain_ShortNames : law27_ShortNames 64 = some true := by kernel_rfl
end Go.Proofs.YtpgflfjmjppmeaaGreatDoor

/-
  The closed facts of the law's row, one by one. Nothing here is a statement of this claim.
-/
import Derived.Test.YtdkddffedangnaaGreatDoorRows
import Derived.JoinedCond
namespace Go.Proofs.YtdkddffedangnaaGreatDoor.layersHeldUpto
open Go.ChangeShapes Go.WideShapes Go.ChangeAt
set_option maxRecDepth 100000
set_option maxHeartbeats 4000000
theorem jf:joinedFacts Tryz.pinned.checked.prog 3 Tryz.f3 (Rows.OpenSpec.upto Rows.layersHeldSpec).bare Rows.layersHeldUptoRow=true:=by
  unfold joinedFacts
  simp only[Bool.and_eq_true]
  repeat' apply And.intro
  all_goals (as_aux_lemma=>kernel_rfl)
end Go.Proofs.YtdkddffedangnaaGreatDoor.layersHeldUpto

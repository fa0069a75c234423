/-
  The closed facts of the law's row, one by one. Nothing here is a statement of this claim.
-/
import Derived.Test.YtpobihiejncdgaaGreatDoorRows
import Derived.JoinedCond
namespace Go.Proofs.YtpobihiejncdgaaGreatDoor.topText
open Go.ChangeShapes Go.WideShapes Go.ChangeAt
set_option maxRecDepth 100000
set_option maxHeartbeats 4000000
theorem jf:joinedFacts Tryz.pinned.checked.prog 3 Tryz.f3 (OpenSpec.ofChange Rows.topTextSpec).bare Rows.topTextRow=true:=by
  unfold joinedFacts
  simp only[Bool.and_eq_true]
  repeat' apply And.intro
  all_goals (as_aux_lemma=>kernel_rfl)
end Go.Proofs.YtpobihiejncdgaaGreatDoor.topText

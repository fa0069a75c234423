/-
  TokenNames: the model comes to 'true'. No program in sight.
-/
import Derived.Test.YtfancfogkhclfaaGreatDoorP02Na
set_option maxRecDepth 100000
namespace Go.Proofs.YtfancfogkhclfaaGreatDoor
open Go.V Go.RowKit
theorem plain_TokenNames : law02_TokenNames 4100 = some true := by
  unfold law02_TokenNames
  rw [chk_pos (by decide), lt_eq, fill 4100 (by decide), Option.bind_some, cm_1501, cm_tokens_1501 4100 (by decide), Option.bind_some, chk_pos (by unfold ln; rw [List.length_replicate]; decide), lt_eq, cm_1500, cm_tokens_1500 4100 (by decide), Option.bind_some,
    chk_pos (by decide), lt_eq, long_spans, Option.bind_some]
  simp only [lt_eq (List.replicate (Int.toNat 4001) (0 : Int)), long_value 4100, long_name 4100]
  kernel_rfl
end Go.Proofs.YtfancfogkhclfaaGreatDoor

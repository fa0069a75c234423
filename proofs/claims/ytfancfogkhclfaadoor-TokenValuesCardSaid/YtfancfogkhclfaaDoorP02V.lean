/-
  The law of layer 2 on values and names, in plain words.
-/
import Derived.Test.YtfancfogkhclfaaDoorPN3
import Derived.Test.YtfancfogkhclfaaDoorPM
set_option linter.unusedVariables false
namespace Go.Proofs.YtfancfogkhclfaaDoor
open Go Go.V
theorem plain_TokenValues (s : Str) {p : Prop} (_ : p) : law02_TokenValues 5000 s = some true := by
  unfold law02_TokenValues
  rw [lt_eq]
  cases hc : cond (cond (decide (500 < ln s)) (decide (ln s ≤ 4000)) false) true (decide (4100 < ln s))
  · rw [cond_false]
    obtain ⟨v, v1, v2⟩ := value_eq 5000 s (by decide)
    obtain ⟨x, x1, x2⟩ := name_eq 5000 s (by decide)
    rw [v1, v2, x1, x2]
    simp only [Option.bind_some, lt_eq, beq_self_eq_true, cond_true]
  · rfl
end Go.Proofs.YtfancfogkhclfaaDoor

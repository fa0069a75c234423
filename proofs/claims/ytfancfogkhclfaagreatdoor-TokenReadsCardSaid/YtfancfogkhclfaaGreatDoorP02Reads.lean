/-
  TokenReads: the model comes to 'true' for every text. No program in sight.
-/
import Derived.Test.YtfancfogkhclfaaGreatDoorPZ
set_option linter.unusedVariables false
set_option maxRecDepth 100000
namespace Go.Proofs.YtfancfogkhclfaaGreatDoor
open Go Go.V
theorem plain_TokenReads (s : Str) {p : Prop} (_ : p) : law02_TokenReads 30000 s = some true := by
  unfold law02_TokenReads
  rw [lt_eq]
  cases hc : cond (cond (decide (500 < ln s)) (decide (ln s ≤ 4000)) false) true (decide (4100 < ln s))
  · rw [cond_false]
    by_cases h5 : s.length ≤ 500
    · obtain ⟨e1, e2⟩ := clean_500 h5
      obtain ⟨b, j, ts, ss, R⟩ := reads 30000 s _ e1 e2 (by decide)
      obtain ⟨l1, l2⟩ := R.toks.len
      rw [R.t1, R.t2, R.r1, R.r2, Option.bind_some, Option.bind_some, Option.bind_some, Option.bind_some, same_refl 30000 ts (by omega) (by omega), Option.bind_some, sameS_refl 30000 ss (by omega) (by omega)]
      rfl
    · have h4 : 4000 < ln s := by
        unfold ln at hc ⊢
        have a : decide ((500 : Int) < (s.length : Int)) = true := decide_eq_true (by omega)
        rw [a, cond_true] at hc
        by_cases h : (s.length : Int) ≤ 4000
        · rw [decide_eq_true h] at hc; cases hc
        · omega
      have e : cleanF s = ([], 28) := by unfold cleanF; rw [if_pos h4]
      have t1 : token_Tokens 30000 s = some ([], 28) := by unfold token_Tokens token_read; rw [e]; rfl
      have t2 : token_Spans 30000 s = some ([], 28) := by unfold token_Spans token_read_2; rw [e]; rfl
      have r1 : r02_Tokens 30000 s = some ([], 28) := by unfold r02_Tokens; rw [rclean_eq 30000 s (by decide), e]; rfl
      have r2 : r02_Spans 30000 s = some ([], 28) := by unfold r02_Spans; rw [rclean_eq 30000 s (by decide), e]; rfl
      rw [t1, t2, r1, r2, Option.bind_some, Option.bind_some, Option.bind_some, Option.bind_some, same_refl 30000 [] (by decide) (by decide), Option.bind_some, sameS_refl 30000 [] (by decide) (by decide)]
      rfl
  · rfl
end Go.Proofs.YtfancfogkhclfaaGreatDoor

/-
  TokenRest: the model comes to 'true' for every text. No program in sight.
-/
import Derived.Test.YtfancfogkhclfaaGreatDoorPSj
set_option linter.unusedVariables false
set_option maxRecDepth 100000
namespace Go.Proofs.YtfancfogkhclfaaGreatDoor
open Go Go.V
theorem alive_ok : law02_alive 30000 = some true := by kernel_rfl
theorem hasC_drop (s : Str) (k : Nat) (h : hasC s = false) : hasC (s.drop k) = false := by
  unfold hasC at h ⊢
  rw [List.any_eq_false] at h ⊢
  exact fun x hx => h x (List.mem_of_mem_drop hx)
theorem plain_TokenRest (s : Str) (at_ : Int) {p q : Prop} (_ : p) (_ : q) : law02_TokenRest 30000 s at_ = some true := by
  unfold law02_TokenRest
  by_cases h5 : s.length ≤ 500
  · obtain ⟨e1, e2⟩ := clean_500 h5
    obtain ⟨b, j, ts, ss, R⟩ := reads 30000 s _ e1 e2 (by decide)
    obtain ⟨l1, l2⟩ := R.toks.len
    have hC := hasC_clean false s
    generalize cleanS false s = c at *
    rw [show decide ((500 : Int) < ln s) = false from decide_eq_false (by unfold ln; omega), cond_false, e1, lt_eq, R.t1, R.t2, Option.bind_some, Option.bind_some, lt_eq]
    try dsimp only
    rw [show (cond (cond (cond ((0 : Int) != 0) true ((0 : Int) != 0)) true ((0 : Int) != 0)) true (ln ts != ln ss)) = false from by unfold ln; rw [l1]; simp, cond_false, lt_eq]
    cases hx : cond (decide (at_ < 0)) true (decide (ln ts ≤ at_)) with
    | true => rw [cond_true, alive_ok]; rfl
    | false =>
      have hx1 : ¬ at_ < 0 := fun h => by rw [decide_eq_true h] at hx; cases hx
      have hx2 : ¬ ln ts ≤ at_ := fun h => by rw [decide_eq_true h, decide_eq_false hx1] at hx; cases hx
      obtain ⟨n, rfl⟩ : ∃ n : Nat, at_ = (n : Int) := ⟨at_.toNat, by omega⟩
      have hn : n < ss.length := by unfold ln at hx2; omega
      obtain ⟨e, j2, d1, d2, d3, d4⟩ := toks_drop R.toks n hn
      have hgi : (gi ss (n : Int)).e1 = (e : Int) := by rw [gi_nat ss n hn]; exact d1
      rw [cond_false, chk_ix hn, hgi, lt_eq, show decide ((e : Int) < 0) = false from decide_eq_false (by omega), show decide (ln c < (e : Int)) = false from decide_eq_false (by unfold ln; omega), cond_false, cond_false, chk_pos ⟨by omega, by unfold ln; omega⟩, sub_to_end c e d2]
      have hcl : cleanF (c.drop e) = (c.drop e, 0) := by
        rw [cleanF_small _ (by rw [List.length_drop]; omega), clean_id _ (hasC_drop c e hC)]
      obtain ⟨b', j', ts', ss', R'⟩ := reads 30000 (c.drop e) _ hcl (by rw [List.length_drop]; omega) (by decide)
      have hj : token_scanner_comments 30000 c ((e + 0 : Nat) : Int) = some ((e + j' : Nat) : Int) := sh_comments 30000 c e (by omega) d2 (by omega) 30000 0 j' (by omega) R'.past
      rw [Nat.add_zero, d3] at hj
      have hj2 : ((j2 : Nat) : Int) = ((e + j' : Nat) : Int) := Option.some.inj hj
      have hj3 : j2 = e + j' := by omega
      subst hj3
      have hts : ts.drop (n + 1) = ts' := sh_toks 30000 c e (by omega) d2 (by decide) R'.toks d4
      rw [R'.t1, Option.bind_some, lt_eq]
      try dsimp only
      have hsl : subl ts ((n + 1 : Nat) : Int) (ln ts) = ts' := by
        unfold subl ln
        rw [Int.toNat_natCast, Int.toNat_natCast, List.take_of_length_le (by rw [List.length_drop]; omega), hts]
      have hl' : ts'.length < 100000 := by rw [← hts, List.length_drop]; omega
      rw [show ((0 : Int) == 0) = true from rfl, cond_true, w64_ix (by omega), chk_pos ⟨by omega, by unfold ln; omega, Int.le_refl _⟩, lt_eq, hsl, same_refl 30000 ts' (by omega) (by rw [← hts, List.length_drop]; omega), Option.bind_some, cond_true, alive_ok]
      rfl
  · rw [show decide ((500 : Int) < ln s) = true from decide_eq_true (by unfold ln; omega), cond_true, alive_ok]
    rfl
end Go.Proofs.YtfancfogkhclfaaGreatDoor

/-
  AnswerBack: the model comes to 'true' for every log and every text. No program in sight.
-/
import Derived.Test.YtipafpkdkhnjmaaGreatDoorQ7
set_option linter.unusedVariables false
set_option maxRecDepth 100000
namespace Go.Proofs.YtipafpkdkhnjmaaGreatDoor
open Go Go.V Go.RowKit
structure Nc (a : TAnswer) : Prop where
  n : Nb a
  s : tot a.Texts ≤ 600 ∨ 20000 < tot a.Texts
theorem great2_L1 (l : List TAnswer) (hl : l.length ≤ 65) (hw : ∀ x ∈ l, WfA x) (hz : ∀ x ∈ l, tot x.Texts ≤ 1048576) : ∀ (kk i : Nat), l.length - i < kk → i ≤ l.length → r40_Great_L1 91000 l kk (i : Int) = some (.inl true) ∨ (r40_Great_L1 91000 l kk (i : Int) = some (.inr ()) ∧ ∀ x ∈ l.drop i, Nc x) := by
  intro kk
  induction kk with
  | zero => intro i h; omega
  | succ kk ih =>
    intro i hk hi
    rw [r40_Great_L1]
    by_cases hlt : i < l.length
    · have hm := List.getElem_mem hlt
      obtain ⟨b, b1, b2⟩ := big_eq 91000 (by decide) l[i] (hz _ hm)
      rw [lt_dec hlt, cond_true, chk_ix hlt, gi_nat l i hlt, b1, Option.bind_some]
      cases b with
      | true => exact Or.inl rfl
      | false =>
        obtain ⟨c1, c2, c3, c4⟩ := b2 rfl
        rw [cond_false, w64_ix (by omega)]
        rcases ih (i + 1) (by omega) hlt with h | ⟨h1, h2⟩
        · exact Or.inl h
        · refine Or.inr ⟨h1, fun x hx => ?_⟩
          rw [List.drop_eq_getElem_cons hlt] at hx
          rcases List.mem_cons.1 hx with rfl | hx
          · exact ⟨⟨in_big 91000 (by decide) (hw _ hm) c1 c2 c4, c1, c2, c4⟩, c3⟩
          · exact h2 x hx
    · rw [ge_dec (by omega), cond_false]
      exact Or.inr ⟨rfl, fun x hx => by rw [List.drop_eq_nil_of_le (by omega)] at hx; cases hx⟩
theorem great2_eq (l : List TAnswer) (hw : ∀ x ∈ l, WfA x) (hz : ∀ x ∈ l, tot x.Texts ≤ 1048576) : ∃ b, r40_Great 91000 l = some b ∧ (b = false → (l.length ≤ 15 ∨ 60 < l.length) ∧ l.length ≤ 65 ∧ ∀ x ∈ l, Nc x) := by
  unfold r40_Great
  rw [lt_eq]
  cases hc : cond (cond (decide (15 < ln l)) (decide (ln l ≤ 60)) false) true (decide (65 < ln l)) with
  | true => exact ⟨true, rfl, fun h => by cases h⟩
  | false =>
    have h65 : (l.length ≤ 15 ∨ 60 < l.length) ∧ l.length ≤ 65 := by
      unfold ln at hc
      by_cases h : (65 : Int) < (l.length : Int)
      · rw [decide_eq_true h] at hc
        cases h2 : cond (decide ((15 : Int) < (l.length : Int))) (decide ((l.length : Int) ≤ 60)) false <;> rw [h2] at hc <;> cases hc
      · refine ⟨?_, by omega⟩
        by_cases h2 : (15 : Int) < (l.length : Int)
        · by_cases h3 : (l.length : Int) ≤ 60
          · rw [decide_eq_true h2, decide_eq_true h3] at hc
            cases hc
          · right; omega
        · left; omega
    rw [cond_false]
    rcases great2_L1 l h65.2 hw hz 91000 0 (by omega) (by omega) with h | ⟨h1, h2⟩
    · rw [show r40_Great_L1 91000 l 91000 0 = _ from h]
      exact ⟨true, rfl, fun h => by cases h⟩
    · rw [show r40_Great_L1 91000 l 91000 0 = _ from h1]
      exact ⟨false, rfl, fun _ => ⟨h65.1, h65.2, fun x hx => h2 x (by rw [List.drop_zero]; exact hx)⟩⟩
theorem nb_ok {a : TAnswer} (h : In 91000 a) (ho : okA a = true) : Nb a := by
  obtain ⟨_, q2, q3, q4⟩ := okA_iff.1 ho
  exact ⟨h, by omega, by omega, by omega⟩
end Go.Proofs.YtipafpkdkhnjmaaGreatDoor

/-
  Answers as text: numbers, and whole lines, by both writers. No program in sight.
-/
import Derived.Test.YtipafpkdkhnjmaaDoorQ1
set_option linter.unusedVariables false
set_option maxRecDepth 100000
namespace Go.Proofs.YtipafpkdkhnjmaaDoor
open Go Go.V Go.RowKit
/-! ## Numbers -/
/-- Numbers that the program's ints hold. -/
def In64 (n : Int) : Prop := -9223372036854775808 ≤ n ∧ n ≤ 9223372036854775807
/-! ## What an answer may be -/
def okA (a : TAnswer) : Bool := (decide (0 ≤ a.Err) && decide (a.Err ≤ 99)) && (decide (a.Texts.length ≤ 64) && (decide (tot a.Texts ≤ 20000) && decide (a.Numbers.length ≤ 64)))
theorem okA_iff {a : TAnswer} : okA a = true ↔ (0 ≤ a.Err ∧ a.Err ≤ 99) ∧ a.Texts.length ≤ 64 ∧ tot a.Texts ≤ 20000 ∧ a.Numbers.length ≤ 64 := by
  unfold okA
  simp only [Bool.and_eq_true, decide_eq_true_eq]
theorem okA_out (a : TAnswer) (n : Nat) (hn : a.Texts.length ≤ 64 → n = tot a.Texts) :
    (lt (cond (decide (a.Err < 0)) true (decide (99 < a.Err))) fun x24 => lt (cond x24 true (decide (64 < (ln a.Texts)))) fun x25 => lt (cond (cond x25 true (decide (20000 < (n : Int)))) true (decide (64 < (ln a.Numbers)))) fun x26 => cond x26 (some (8 : Int)) (some 0)) = some (cond (okA a) 0 8) := by
  rw [lt_eq, lt_eq, lt_eq]
  cases h : okA a with
  | true =>
    obtain ⟨⟨h1, h2⟩, h3, h4, h5⟩ := okA_iff.1 h
    rw [hn h3, decide_eq_false (show ¬ a.Err < 0 by omega), decide_eq_false (show ¬ 99 < a.Err by omega), decide_eq_false (show ¬ 64 < ln a.Texts by unfold ln; omega), decide_eq_false (show ¬ (20000 : Int) < (tot a.Texts : Int) by omega), decide_eq_false (show ¬ 64 < ln a.Numbers by unfold ln; omega)]
    rfl
  | false =>
    have : cond (cond (cond (cond (decide (a.Err < 0)) true (decide (99 < a.Err))) true (decide (64 < ln a.Texts))) true (decide (20000 < (n : Int)))) true (decide (64 < ln a.Numbers)) = true := by
      cases h1 : decide (a.Err < 0) with
      | true => rfl
      | false =>
        cases h2 : decide (99 < a.Err) with
        | true => rfl
        | false =>
          cases h3 : decide (64 < ln a.Texts) with
          | true => rfl
          | false =>
            have h3' : a.Texts.length ≤ 64 := by have := of_decide_eq_false h3; unfold ln at this; omega
            cases h4 : decide ((20000 : Int) < (n : Int)) with
            | true => rfl
            | false =>
              cases h5 : decide (64 < ln a.Numbers) with
              | true => rfl
              | false =>
                have e1 := of_decide_eq_false h1
                have e2 := of_decide_eq_false h2
                have e4 := of_decide_eq_false h4
                have e5 := of_decide_eq_false h5
                unfold ln at e5
                rw [hn h3'] at e4
                have := okA_iff.2 ⟨⟨by omega, by omega⟩, h3', by omega, by omega⟩
                rw [h] at this; cases this
    rw [this, cond_true]; rfl
theorem check_L1 (m : Nat) (a : TAnswer) (hl : a.Texts.length < 1000000) : ∀ (kk i z : Nat), a.Texts.length - i < kk → i ≤ a.Texts.length → z + tot (a.Texts.drop i) ≤ 100000000000 → answer_Check_L1 m a kk (z : Int) (i : Int) = some ((z + tot (a.Texts.drop i) : Nat) : Int) := by
  intro kk
  induction kk with
  | zero => intro i z h; omega
  | succ kk ih =>
    intro i z hk hi hz
    rw [answer_Check_L1]
    by_cases hlt : i < a.Texts.length
    · have hg : gi a.Texts (i : Int) = a.Texts[i] := gi_nat _ i hlt
      rw [List.drop_eq_getElem_cons hlt, tot_cons] at hz
      have e : w64 ((z : Int) + ln a.Texts[i]) = ((z + a.Texts[i].length : Nat) : Int) := by unfold ln; rw [w64_id (by omega) (by omega)]; omega
      rw [lt_dec hlt, cond_true, chk_ix hlt, hg, w64_ix (by omega), e, ih (i + 1) (z + a.Texts[i].length) (by omega) hlt (by omega), List.drop_eq_getElem_cons hlt, tot_cons, Nat.add_assoc]
    · rw [ge_dec (by omega), cond_false, List.drop_eq_nil_of_le (by omega)]
      rfl
theorem check_eq (m : Nat) (a : TAnswer) (hl : a.Texts.length < 1000000) (ht : tot a.Texts ≤ 10000000000) (hm : a.Texts.length < m) : answer_Check m a = some (cond (okA a) 0 8) := by
  unfold answer_Check
  have h1 := check_L1 m a hl m 0 0 (by omega) (by omega) (by rw [List.drop_zero]; omega)
  rw [List.drop_zero, Nat.zero_add] at h1
  rw [show answer_Check_L1 m a m 0 0 = _ from h1, Option.bind_some]
  exact okA_out a (tot a.Texts) fun _ => rfl
/-! ## Lines -/
/-- What an answer is made of: numbers in range, texts that are not too long for the count of rounds. -/
structure In (m : Nat) (a : TAnswer) : Prop where
  err : In64 a.Err
  num : In64 a.Num
  nums : ∀ n ∈ a.Numbers, In64 n
  lenT : a.Texts.length < m
  lenN : a.Numbers.length < m
  txt : ∀ t ∈ a.Texts, t.length < m
  tot : tot a.Texts < 1000000000
end Go.Proofs.YtipafpkdkhnjmaaDoor

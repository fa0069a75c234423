/-
  AnswerLines: the model comes to 'true' for every answer and every line. No program in sight.
-/
import Derived.Test.YtipafpkdkhnjmaaGreatDoorQ6
import Derived.Test.YtipafpkdkhnjmaaGreatDoorRU
set_option linter.unusedVariables false
set_option maxRecDepth 100000
namespace Go.Proofs.YtipafpkdkhnjmaaGreatDoor
open Go Go.V Go.RowKit
/-- What the walk's reading of an argument says of it. -/
abbrev WfA (x : TAnswer) : Prop := (Lit.int .i64 x.Err).wf = true ∧ (Lit.int .i64 x.Num).wf = true ∧ (x.Texts.length ≤ maxLen ∧ ∀ y ∈ x.Texts, y.length ≤ maxLen) ∧ (x.Numbers.length ≤ maxLen ∧ ∀ y ∈ x.Numbers, (Lit.int .i64 y).wf = true)
theorem in_wf {n : Int} (h : (Lit.int .i64 n).wf = true) : In64 n := by
  have h1 : IntKind.i64.min ≤ n ∧ n ≤ 9223372036854775807 := by simpa [Lit.wf] using h
  have h2 : IntKind.i64.min = -9223372036854775808 := by decide
  rw [h2] at h1
  exact h1
/-- How much of the bulk it takes. -/
abbrev bkA (x : TAnswer) : Nat := 1 + 1 + bkL (fun v => v.length + 1) x.Texts + bkL (fun _ => 1) x.Numbers + 1
theorem bkL_tot : ∀ l : List Str, bkL (fun v => v.length + 1) l = tot l + l.length + 1
  | [] => rfl
  | x :: l => by
    have e : bkL (fun v : Str => v.length + 1) (x :: l) = x.length + 1 + bkL (fun v => v.length + 1) l := by simp [bkL]; omega
    rw [e, bkL_tot l, tot_cons, List.length_cons]; omega
theorem bkA_tot (x : TAnswer) : tot x.Texts ≤ bkA x := by
  have := bkL_tot x.Texts
  unfold bkA; omega
theorem big_L1 (m : Nat) (a : TAnswer) (hl : a.Texts.length < 1000000) : ∀ (kk i z : Nat), a.Texts.length - i < kk → i ≤ a.Texts.length → z + tot (a.Texts.drop i) ≤ 4611686018427387904 → r40_Big_L1 m a kk (z : Int) (i : Int) = some ((z + tot (a.Texts.drop i) : Nat) : Int) := by
  intro kk
  induction kk with
  | zero => intro i z h; omega
  | succ kk ih =>
    intro i z hk hi hz
    rw [r40_Big_L1]
    by_cases hlt : i < a.Texts.length
    · have hg : gi a.Texts (i : Int) = a.Texts[i] := gi_nat _ i hlt
      rw [List.drop_eq_getElem_cons hlt, tot_cons] at hz
      have e : w64 ((z : Int) + ln a.Texts[i]) = ((z + a.Texts[i].length : Nat) : Int) := by unfold ln; rw [w64_id (by omega) (by omega)]; omega
      rw [lt_dec hlt, cond_true, chk_ix hlt, hg, w64_ix (by omega), e, ih (i + 1) (z + a.Texts[i].length) (by omega) hlt (by omega), List.drop_eq_getElem_cons hlt, tot_cons, Nat.add_assoc]
    · rw [ge_dec (by omega), cond_false, List.drop_eq_nil_of_le (by omega)]
      rfl
/-- What is not big. -/
theorem big_eq (m : Nat) (hm : 100 < m) (a : TAnswer) (w : tot a.Texts ≤ 1048576) : ∃ b, r40_Big m a = some b ∧ (b = false → a.Texts.length ≤ 70 ∧ a.Numbers.length ≤ 70 ∧ (tot a.Texts ≤ 600 ∨ 20000 < tot a.Texts) ∧ tot a.Texts ≤ 20100) := by
  unfold r40_Big
  rw [lt_eq]
  cases hc : cond (decide (70 < ln a.Texts)) true (decide (70 < ln a.Numbers)) with
  | true => exact ⟨true, rfl, fun h => by cases h⟩
  | false =>
    have hx : a.Texts.length ≤ 70 ∧ a.Numbers.length ≤ 70 := by
      cases h1 : decide (70 < ln a.Texts) with
      | true => rw [h1] at hc; cases hc
      | false =>
        rw [h1, cond_false] at hc
        have e1 := of_decide_eq_false h1
        have e2 := of_decide_eq_false hc
        unfold ln at e1 e2; omega
    have h1 := big_L1 m a (by omega) m 0 0 (by omega) (by omega) (by rw [List.drop_zero]; omega)
    rw [List.drop_zero, Nat.zero_add] at h1
    rw [cond_false, show r40_Big_L1 m a m 0 0 = _ from h1, Option.bind_some, lt_eq]
    refine ⟨_, rfl, fun h => ?_⟩
    have hd : decide (20100 < ((tot a.Texts : Nat) : Int)) = false := by
      cases h2 : cond (decide (600 < ((tot a.Texts : Nat) : Int))) (decide (((tot a.Texts : Nat) : Int) ≤ 20000)) false with
      | true => rw [h2] at h; cases h
      | false => rw [h2, cond_false] at h; exact h
    have hd2 : cond (decide (600 < ((tot a.Texts : Nat) : Int))) (decide (((tot a.Texts : Nat) : Int) ≤ 20000)) false = false := by
      cases h2 : cond (decide (600 < ((tot a.Texts : Nat) : Int))) (decide (((tot a.Texts : Nat) : Int) ≤ 20000)) false with
      | true => rw [h2] at h; cases h
      | false => rfl
    have e1 := of_decide_eq_false hd
    refine ⟨hx.1, hx.2, ?_, by omega⟩
    by_cases h6 : 600 < tot a.Texts
    · right
      rw [decide_eq_true (show (600 : Int) < ((tot a.Texts : Nat) : Int) by omega), cond_true] at hd2
      have := of_decide_eq_false hd2
      omega
    · left; omega
theorem in_big (m : Nat) (hm : 21000 ≤ m) {a : TAnswer} (w : WfA a) (h1 : a.Texts.length ≤ 70) (h2 : a.Numbers.length ≤ 70) (h3 : tot a.Texts ≤ 20100) : In m a :=
  ⟨in_wf w.1, in_wf w.2.1, fun n hn => in_wf (w.2.2.2.2 n hn), by omega, by omega, fun t ht => by have := mem_tot ht; omega, by omega⟩
end Go.Proofs.YtipafpkdkhnjmaaGreatDoor

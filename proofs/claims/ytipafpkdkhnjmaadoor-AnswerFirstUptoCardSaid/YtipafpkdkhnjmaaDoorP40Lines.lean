/-
  AnswerLines: the model comes to 'true' for every answer and every line. No program in sight.
-/
import Derived.Test.YtipafpkdkhnjmaaDoorQ6
import Derived.Test.YtipafpkdkhnjmaaDoorRU
set_option linter.unusedVariables false
set_option maxRecDepth 100000
namespace Go.Proofs.YtipafpkdkhnjmaaDoor
open Go Go.V Go.RowKit
/-- What the walk's reading of an argument says of it. -/
abbrev WfA (x : TAnswer) : Prop := (Lit.int .i64 x.Err).wf = true ∧ (Lit.int .i64 x.Num).wf = true ∧ (x.Texts.length ≤ maxLen ∧ ∀ y ∈ x.Texts, y.length ≤ maxLen) ∧ (x.Numbers.length ≤ maxLen ∧ ∀ y ∈ x.Numbers, (Lit.int .i64 y).wf = true)
theorem in_wf {n : Int} (h : (Lit.int .i64 n).wf = true) : In64 n := by
  have h1 : IntKind.i64.min ≤ n ∧ n ≤ 9223372036854775807 := by simpa [Lit.wf] using h
  have h2 : IntKind.i64.min = -9223372036854775808 := by decide
  rw [h2] at h1
  exact h1
/-- How much of the bulk it takes. -/
abbrev bkA (x : TAnswer) : Nat := 1 + 1 + bkL (fun v => v.length + 1) x.Texts + bkL (fun _ => 1) x.Numbers + 1
theorem bkL_tot : ∀ l : List Str, bkL (fun v => v.length + 1) l = tot l + l.length + 1
  | [] => rfl
  | x :: l => by
    have e : bkL (fun v : Str => v.length + 1) (x :: l) = x.length + 1 + bkL (fun v => v.length + 1) l := by simp [bkL]; omega
    rw [e, bkL_tot l, tot_cons, List.length_cons]; omega
theorem bkA_tot (x : TAnswer) : tot x.Texts ≤ bkA x := by
  have := bkL_tot x.Texts
  unfold bkA; omega
theorem big_L1 (m : Nat) (a : TAnswer) (hl : a.Texts.length < 1000000) : ∀ (kk i z : Nat), a.Texts.length - i < kk → i ≤ a.Texts.length → z + tot (a.Texts.drop i) ≤ 4611686018427387904 → r40_Big_L1 m a kk (z : Int) (i : Int) = some ((z + tot (a.Texts.drop i) : Nat) : Int) := by
  intro kk
  induction kk with
  | zero => intro i z h; omega
  | succ kk ih =>
    intro i z hk hi hz
    rw [r40_Big_L1]
    by_cases hlt : i < a.Texts.length
    · have hg : gi a.Texts (i : Int) = a.Texts[i] := gi_nat _ i hlt
      rw [List.drop_eq_getElem_cons hlt, tot_cons] at hz
      have e : w64 ((z : Int) + ln a.Texts[i]) = ((z + a.Texts[i].length : Nat) : Int) := by unfold ln; rw [w64_id (by omega) (by omega)]; omega
      rw [lt_dec hlt, cond_true, chk_ix hlt, hg, w64_ix (by omega), e, ih (i + 1) (z + a.Texts[i].length) (by omega) hlt (by omega), List.drop_eq_getElem_cons hlt, tot_cons, Nat.add_assoc]
    · rw [ge_dec (by omega), cond_false, List.drop_eq_nil_of_le (by omega)]
      rfl
/-- What is not big. -/
theorem big_eq (m : Nat) (hm : 100 < m) (a : TAnswer) (w : tot a.Texts ≤ 1048576) : ∃ b, r40_Big m a = some b ∧ (b = false → a.Texts.length ≤ 70 ∧ a.Numbers.length ≤ 70 ∧ (tot a.Texts ≤ 600 ∨ 20000 < tot a.Texts) ∧ tot a.Texts ≤ 20100) := by
  unfold r40_Big
  rw [lt_eq]
  cases hc : cond (decide (70 < ln a.Texts)) true (decide (70 < ln a.Numbers)) with
  | true => exact ⟨true, rfl, fun h => by cases h⟩
  | false =>
    have hx : a.Texts.length ≤ 70 ∧ a.Numbers.length ≤ 70 := by
      cases h1 : decide (70 < ln a.Texts) with
      | true => rw [h1] at hc; cases hc
      | false =>
        rw [h1, cond_false] at hc
        have e1 := of_decide_eq_false h1
        have e2 := of_decide_eq_false hc
        unfold ln at e1 e2; omega
    have h1 := big_L1 m a (by omega) m 0 0 (by omega) (by omega) (by rw [List.drop_zero]; omega)
    rw [List.drop_zero, Nat.zero_add] at h1
    rw [cond_false, show r40_Big_L1 m a m 0 0 = _ from h1, Option.bind_some, lt_eq]
    refine ⟨_, rfl, fun h => ?_⟩
    have hd : decide (20100 < ((tot a.Texts : Nat) : Int)) = false := by
      cases h2 : cond (decide (600 < ((tot a.Texts : Nat) : Int))) (decide (((tot a.Texts : Nat) : Int) ≤ 20000)) false with
      | true => rw [h2] at h; cases h
      | false => rw [h2, cond_false] at h; exact h
    have hd2 : cond (decide (600 < ((tot a.Texts : Nat) : Int))) (decide (((tot a.Texts : Nat) : Int) ≤ 20000)) false = false := by
      cases h2 : cond (decide (600 < ((tot a.Texts : Nat) : Int))) (decide (((tot a.Texts : Nat) : Int) ≤ 20000)) false with
      | true => rw [h2] at h; cases h
      | false => rfl
    have e1 := of_decide_eq_false hd
    refine ⟨hx.1, hx.2, ?_, by omega⟩
    by_cases h6 : 600 < tot a.Texts
    · right
      rw [decide_eq_true (show (600 : Int) < ((tot a.Texts : Nat) : Int) by omega), cond_true] at hd2
      have := of_decide_eq_false hd2
      omega
    · left; omega
theorem in_big (m : Nat) (hm : 21000 ≤ m) {a : TAnswer} (w : WfA a) (h1 : a.Texts.length ≤ 70) (h2 : a.Numbers.length ≤ 70) (h3 : tot a.Texts ≤ 20100) : In m a :=
  ⟨in_wf w.1, in_wf w.2.1, fun n hn => in_wf (w.2.2.2.2 n hn), by omega, by omega, fun t ht => by have := mem_tot ht; omega, by omega⟩
theorem plain_AnswerLines (a : TAnswer) (s : Str) (w : WfA a) {p : Prop} (_ : p) (hb : bkA a + (s.length + 1) + 0 ≤ 1048576) : law40_AnswerLines 91000 a s = some true := by
  unfold law40_AnswerLines
  obtain ⟨b, b1, b2⟩ := big_eq 91000 (by decide) a (by have := bkA_tot a; omega)
  rw [b1, Option.bind_some, lt_eq]
  cases hc : cond (cond b true (cond (decide (3000 < ln s)) (decide (ln s ≤ 90000)) false)) true (decide (90100 < ln s)) with
  | true => rfl
  | false =>
    have hbf : b = false := by cases b with
      | true => cases hc
      | false => rfl
    subst hbf
    obtain ⟨c1, c2, c3, c4⟩ := b2 rfl
    have hl : s.length ≤ 90100 := by
      by_cases h : 90100 < ln s
      · rw [decide_eq_true h] at hc
        cases h2 : cond (decide (3000 < ln s)) (decide (ln s ≤ 90000)) false <;> rw [h2] at hc <;> cases hc
      · unfold ln at h; omega
    have hin := in_big 91000 (by decide) w c1 c2 c4
    obtain ⟨_, r2, r3⟩ := rline_eq 91000 (by decide) (by decide) a hin
    obtain ⟨x, e, x1, x2⟩ := pread 91000 (by decide) s (by omega)
    obtain ⟨y, f, y1, y2⟩ := rread 91000 (by decide) s (by omega)
    have hxy : x = y ∧ e = f ∧ x.Texts.length < 90000 ∧ x.Numbers.length < 90000 := by
      have z0 : (TAnswer.mk 0 0 [] []).Texts.length < 90000 ∧ (TAnswer.mk 0 0 [] []).Numbers.length < 90000 := ⟨by decide, by decide⟩
      rcases x2 with ⟨rfl, i1, o1, s1⟩ | ⟨rfl, rfl, n1⟩ | ⟨rfl, rfl, l1⟩
      · obtain ⟨_, q2, _, q4⟩ := okA_iff.1 o1
        rcases y2 with ⟨rfl, i2, o2, s2⟩ | ⟨rfl, rfl, n2⟩ | ⟨rfl, rfl, l2⟩
        · have hp := read_ok 91000 x i1 (by rw [s1]; omega) (by decide)
          have hq := read_ok 91000 y i2 (by rw [s2]; omega) (by decide)
          rw [s1] at hp
          rw [s2, hp] at hq
          exact ⟨(Prod.mk.inj (Option.some.inj hq)).1, rfl, by omega, by omega⟩
        · exact absurd s1 (n2 x i1 o1)
        · exfalso
          unfold answer_ReadLine at x1
          rw [show decide ((90000 : Int) < ln s) = true from decide_eq_true (by unfold ln; omega), cond_true] at x1
          have := (Prod.mk.inj (Option.some.inj x1)).2
          omega
      · rcases y2 with ⟨rfl, i2, o2, s2⟩ | ⟨rfl, rfl, n2⟩ | ⟨rfl, rfl, l2⟩
        · exact absurd s2 (n1 y i2 o2)
        · exact ⟨rfl, rfl, z0⟩
        · exfalso
          unfold answer_ReadLine at x1
          rw [show decide ((90000 : Int) < ln s) = true from decide_eq_true (by unfold ln; omega), cond_true] at x1
          have := (Prod.mk.inj (Option.some.inj x1)).2
          omega
      · rcases y2 with ⟨rfl, i2, o2, s2⟩ | ⟨rfl, rfl, n2⟩ | ⟨rfl, rfl, l2⟩
        · exfalso
          unfold r40_ReadLine at y1
          rw [show decide ((90000 : Int) < ln s) = true from decide_eq_true (by unfold ln; omega), cond_true] at y1
          have := (Prod.mk.inj (Option.some.inj y1)).2
          omega
        · exfalso
          unfold r40_ReadLine at y1
          rw [show decide ((90000 : Int) < ln s) = true from decide_eq_true (by unfold ln; omega), cond_true] at y1
          have := (Prod.mk.inj (Option.some.inj y1)).2
          omega
        · exact ⟨rfl, rfl, z0⟩
    obtain ⟨rfl, rfl, t1, t2⟩ := hxy
    obtain ⟨q, q1, q2⟩ := same_eq 91000 x x (by omega) (by omega) (by omega) (by omega)
    have hq : q = true := q2.2 rfl
    rw [cond_false, line_eq 91000 (by decide) (by decide) a hin, Option.bind_some, r3, Option.bind_some, x1, Option.bind_some, y1, Option.bind_some, check_eq 91000 a (by omega) (by omega) (by omega), Option.bind_some, r2, Option.bind_some, q1, hq]
    cases okA a
    · rw [show (cond (cond ((cond false (0 : Int) 8) == (cond false (0 : Int) 8)) ((cond false (shown a, (0 : Int)) ([], 8)).1 == (cond false (shown a, (0 : Int)) ([], 8)).1) false) ((cond false (shown a, (0 : Int)) ([], 8)).2 == (cond false (shown a, (0 : Int)) ([], 8)).2) false) = true from rfl, lt_eq, cond_true, Option.bind_some, lt_eq, cond_true, cond_true, beq_self_eq_true]
    · rw [show (cond (cond ((cond true (0 : Int) 8) == (cond true (0 : Int) 8)) ((cond true (shown a, (0 : Int)) ([], 8)).1 == (cond true (shown a, (0 : Int)) ([], 8)).1) false) ((cond true (shown a, (0 : Int)) ([], 8)).2 == (cond true (shown a, (0 : Int)) ([], 8)).2) false) = true from by
        show cond (cond true (shown a == shown a) false) true false = true
        rw [beq_self_eq_true]; rfl, lt_eq, cond_true, Option.bind_some, lt_eq, cond_true, cond_true, beq_self_eq_true]
end Go.Proofs.YtipafpkdkhnjmaaDoor

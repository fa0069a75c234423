/-
  AnswerFirst: the model comes to 'true' for every two logs. No program in sight.
-/
import Derived.Test.YtipafpkdkhnjmaaGreatDoorP40One
set_option linter.unusedVariables false
set_option maxRecDepth 100000
namespace Go.Proofs.YtipafpkdkhnjmaaGreatDoor
open Go Go.V Go.RowKit
/-! ## Logs -/
/-- What is known of an answer that is not big. -/
structure Nb (a : TAnswer) : Prop where
  i : In 91000 a
  t : a.Texts.length ≤ 70
  n : a.Numbers.length ≤ 70
  z : tot a.Texts ≤ 20100
def logE (l : List TAnswer) : Int := cond (decide (60 < ln l)) 4 (cond (l.all okA) 0 8)
theorem log_L1 (l : List TAnswer) (hl : l.length ≤ 65) (hn : ∀ x ∈ l, Nb x) : ∀ (kk i : Nat), l.length - i < kk → i ≤ l.length → r40_Log_L1 91000 l kk (i : Int) = some (cond ((l.drop i).all okA) (.inr ()) (.inl 8)) := by
  intro kk
  induction kk with
  | zero => intro i h; omega
  | succ kk ih =>
    intro i hk hi
    rw [r40_Log_L1]
    by_cases hlt : i < l.length
    · have hx := hn _ (List.getElem_mem hlt)
      obtain ⟨_, r2⟩ := rshow_eq 91000 (by decide) (by decide) l[i] hx.i
      rw [lt_dec hlt, cond_true, chk_ix hlt, gi_nat l i hlt, r2, Option.bind_some, List.drop_eq_getElem_cons hlt, List.all_cons]
      cases okA l[i] with
      | false => rfl
      | true => rw [show ((cond true (0 : Int) 8) != 0) = false from rfl, cond_false, w64_ix (by omega), ih (i + 1) (by omega) hlt, Bool.true_and]
    · rw [ge_dec (by omega), cond_false, List.drop_eq_nil_of_le (by omega)]; rfl
theorem log_eq (l : List TAnswer) (hl : l.length ≤ 65) (hn : ∀ x ∈ l, Nb x) : r40_Log 91000 l = some (logE l) := by
  unfold r40_Log logE
  cases decide (60 < ln l) with
  | true => rfl
  | false =>
    have h := log_L1 l hl hn 91000 0 (by omega) (by omega)
    rw [cond_false, cond_false, show r40_Log_L1 91000 l 91000 0 = _ from h, List.drop_zero]
    cases l.all okA <;> rfl
theorem check2_L1 (l : List TAnswer) (hl : l.length ≤ 65) (hn : ∀ x ∈ l, Nb x) : ∀ (kk i : Nat), l.length - i < kk → i ≤ l.length → answer_check_L1 91000 l kk (i : Int) = some (cond ((l.drop i).all okA) (.inr ()) (.inl 8)) := by
  intro kk
  induction kk with
  | zero => intro i h; omega
  | succ kk ih =>
    intro i hk hi
    rw [answer_check_L1]
    by_cases hlt : i < l.length
    · have hx := hn _ (List.getElem_mem hlt)
      have hz := hx.z
      have ht := hx.t
      rw [lt_dec hlt, cond_true, chk_ix hlt, gi_nat l i hlt, check_eq 91000 l[i] (by omega) (by omega) (by omega), Option.bind_some, List.drop_eq_getElem_cons hlt, List.all_cons]
      cases okA l[i] with
      | false => rfl
      | true => rw [show ((cond true (0 : Int) 8) != 0) = false from rfl, cond_false, w64_ix (by omega), ih (i + 1) (by omega) hlt, Bool.true_and]
    · rw [ge_dec (by omega), cond_false, List.drop_eq_nil_of_le (by omega)]; rfl
theorem check2_eq (l : List TAnswer) (hl : l.length ≤ 65) (hn : ∀ x ∈ l, Nb x) : answer_check 91000 l = some (logE l) := by
  unfold answer_check logE
  cases decide (60 < ln l) with
  | true => rfl
  | false =>
    have h := check2_L1 l hl hn 91000 0 (by omega) (by omega)
    rw [cond_false, cond_false, show answer_check_L1 91000 l 91000 0 = _ from h, List.drop_zero]
    cases l.all okA <;> rfl
theorem logE_0 {l : List TAnswer} (h : logE l = 0) : l.length ≤ 60 ∧ ∀ x ∈ l, okA x = true := by
  unfold logE at h
  by_cases h1 : (60 : Int) < ln l
  · rw [decide_eq_true h1, cond_true] at h; cases h
  · rw [decide_eq_false h1, cond_false] at h
    cases h2 : l.all okA with
    | false => rw [h2, cond_false] at h; cases h
    | true => exact ⟨by unfold ln at h1; omega, fun x hx => List.all_eq_true.1 h2 x hx⟩
/-! ## The same -/
theorem seqS_L1 (a b : List Str) (hl : a.length < 1000000) (he : a.length = b.length) : ∀ (kk i : Nat), a.length - i < kk → i ≤ a.length → slices_Equal_string_string_L1 91000 a b kk (i : Int) = some (cond (a.drop i == b.drop i) (.inr ()) (.inl false)) := by
  intro kk
  induction kk with
  | zero => intro i h; omega
  | succ kk ih =>
    intro i hk hi
    rw [slices_Equal_string_string_L1]
    by_cases hlt : i < a.length
    · have hlt2 : i < b.length := by omega
      rw [lt_dec hlt, cond_true, chk_ix hlt, chk_ix hlt2, gi_nat a i hlt, gi_nat b i hlt2, List.drop_eq_getElem_cons hlt, List.drop_eq_getElem_cons hlt2]
      show cond (!(a[i] == b[i])) _ _ = some (cond (a[i] == b[i] && a.drop (i + 1) == b.drop (i + 1)) _ _)
      cases a[i] == b[i] with
      | false => rfl
      | true => rw [Bool.not_true, cond_false, Bool.true_and, w64_ix (by omega)]; exact ih (i + 1) (by omega) hlt
    · rw [ge_dec (by omega), cond_false, List.drop_eq_nil_of_le (by omega), List.drop_eq_nil_of_le (by omega)]
      rfl
theorem seqI_L1 (a b : List Int) (hl : a.length < 1000000) (he : a.length = b.length) : ∀ (kk i : Nat), a.length - i < kk → i ≤ a.length → slices_Equal_int_int_L1 91000 a b kk (i : Int) = some (cond (a.drop i == b.drop i) (.inr ()) (.inl false)) := by
  intro kk
  induction kk with
  | zero => intro i h; omega
  | succ kk ih =>
    intro i hk hi
    rw [slices_Equal_int_int_L1]
    by_cases hlt : i < a.length
    · have hlt2 : i < b.length := by omega
      rw [lt_dec hlt, cond_true, chk_ix hlt, chk_ix hlt2, gi_nat a i hlt, gi_nat b i hlt2, List.drop_eq_getElem_cons hlt, List.drop_eq_getElem_cons hlt2]
      show cond (!(a[i] == b[i])) _ _ = some (cond (a[i] == b[i] && a.drop (i + 1) == b.drop (i + 1)) _ _)
      cases a[i] == b[i] with
      | false => rfl
      | true => rw [Bool.not_true, cond_false, Bool.true_and, w64_ix (by omega)]; exact ih (i + 1) (by omega) hlt
    · rw [ge_dec (by omega), cond_false, List.drop_eq_nil_of_le (by omega), List.drop_eq_nil_of_le (by omega)]
      rfl
theorem seqS_eq (a b : List Str) (hl : a.length ≤ 70) : slices_Equal_string_string 91000 a b = some (a == b) := by
  unfold slices_Equal_string_string
  by_cases he : a.length = b.length
  · have h := seqS_L1 a b (by omega) he 91000 0 (by omega) (by omega)
    rw [List.drop_zero, List.drop_zero] at h
    rw [show (ln a != ln b) = false by unfold ln; rw [he]; simp, cond_false, show slices_Equal_string_string_L1 91000 a b 91000 0 = _ from h]
    cases a == b <;> rfl
  · rw [show (ln a != ln b) = true by unfold ln; rw [bne_iff_ne]; omega, cond_true, show (a == b) = false from beq_eq_false_iff_ne.2 fun h => he (by rw [h])]
theorem seqI_eq (a b : List Int) (hl : a.length ≤ 70) : slices_Equal_int_int 91000 a b = some (a == b) := by
  unfold slices_Equal_int_int
  by_cases he : a.length = b.length
  · have h := seqI_L1 a b (by omega) he 91000 0 (by omega) (by omega)
    rw [List.drop_zero, List.drop_zero] at h
    rw [show (ln a != ln b) = false by unfold ln; rw [he]; simp, cond_false, show slices_Equal_int_int_L1 91000 a b 91000 0 = _ from h]
    cases a == b <;> rfl
  · rw [show (ln a != ln b) = true by unfold ln; rw [bne_iff_ne]; omega, cond_true, show (a == b) = false from beq_eq_false_iff_ne.2 fun h => he (by rw [h])]
theorem asame_eq (a b : TAnswer) (h : Nb a) : ∃ q, answer_same 91000 a b = some q ∧ (q = true ↔ a = b) := by
  have ht := h.t
  have hn := h.n
  obtain ⟨e, n, ts, ns⟩ := a
  obtain ⟨e', n', ts', ns'⟩ := b
  unfold answer_same
  dsimp only at *
  rw [lt_eq]
  cases he : e == e' with
  | false => exact ⟨false, rfl, (fun h => by cases h), fun h => by injection h with h1; rw [h1, beq_self_eq_true] at he; cases he⟩
  | true =>
    cases hn' : n == n' with
    | false => exact ⟨false, rfl, (fun h => by cases h), fun h => by injection h with _ h1; rw [h1, beq_self_eq_true] at hn'; cases hn'⟩
    | true =>
      rw [cond_true, cond_true, seqS_eq ts ts' ht, Option.bind_some]
      cases ht' : ts == ts' with
      | false => exact ⟨false, rfl, (fun h => by cases h), fun h => by injection h with _ _ h1; rw [h1, beq_self_eq_true] at ht'; cases ht'⟩
      | true =>
        rw [cond_true, cond_true, seqI_eq ns ns' hn, Option.bind_some, cond_true]
        refine ⟨_, rfl, fun h => ?_, fun h => ?_⟩
        · rw [eq_of_beq he, eq_of_beq hn', eq_of_beq ht', eq_of_beq h]
        · injection h with _ _ _ h1
          rw [h1, beq_self_eq_true]
theorem sall_L1 (a b : List TAnswer) (hl : a.length ≤ 65) (he : a.length = b.length) (ha : ∀ x ∈ a, Nb x) : ∀ (kk i : Nat), a.length - i < kk → i ≤ a.length → ∃ q, r40_SameAll_L1 91000 a b kk (i : Int) = some (cond q (.inr ()) (.inl false)) ∧ (q = true ↔ a.drop i = b.drop i) := by
  intro kk
  induction kk with
  | zero => intro i h; omega
  | succ kk ih =>
    intro i hk hi
    rw [r40_SameAll_L1]
    by_cases hlt : i < a.length
    · have hlt2 : i < b.length := by omega
      have hx := ha _ (List.getElem_mem hlt)
      have hxt := hx.t
      have hxn := hx.n
      obtain ⟨q, q1, q2⟩ := same_eq 91000 a[i] b[i] (by omega) (by omega) (by omega) (by omega)
      rw [lt_dec hlt, cond_true, chk_ix hlt, chk_ix hlt2, gi_nat a i hlt, gi_nat b i hlt2, q1, Option.bind_some, List.drop_eq_getElem_cons hlt, List.drop_eq_getElem_cons hlt2]
      cases q with
      | false => exact ⟨false, rfl, (fun h => by cases h), fun h => by have := q2.2 (List.cons.inj h).1; cases this⟩
      | true =>
        rw [Bool.not_true, cond_false, w64_ix (by omega)]
        obtain ⟨r, r1, r2⟩ := ih (i + 1) (by omega) hlt
        refine ⟨r, r1, ?_⟩
        rw [q2.1 rfl, List.cons.injEq]
        exact ⟨fun h => ⟨rfl, r2.1 h⟩, fun h => r2.2 h.2⟩
    · rw [ge_dec (by omega), cond_false, List.drop_eq_nil_of_le (by omega), List.drop_eq_nil_of_le (by omega)]
      exact ⟨true, rfl, fun _ => rfl, fun _ => rfl⟩
theorem sall_self (a : List TAnswer) (hl : a.length ≤ 65) (ha : ∀ x ∈ a, Nb x) : r40_SameAll 91000 a a = some true := by
  unfold r40_SameAll
  obtain ⟨q, q1, q2⟩ := sall_L1 a a hl rfl ha 91000 0 (by omega) (by omega)
  rw [show (ln a != ln a) = false from bne_self_eq_false _, cond_false, show r40_SameAll_L1 91000 a a 91000 0 = _ from q1, q2.2 rfl]
  rfl
/-! ## The first difference -/
theorem min_le {a b : Nat} (h1 : a ≤ 65) : (if (b : Int) < (a : Int) then (b : Int) else (a : Int)) = ((min a b : Nat) : Int) := by
  split <;> omega
theorem take_eq_of {α : Type} {a b : List α} {i : Nat} (h : a.take i = b.take i) (ha : i < a.length) (hb : i < b.length) (e : a[i] = b[i]) : a.take (i + 1) = b.take (i + 1) := by
  rw [List.take_succ_eq_append_getElem ha, List.take_succ_eq_append_getElem hb, h, e]
theorem first_L1 (a b : List TAnswer) (hl : a.length ≤ 65) (ha : ∀ x ∈ a, Nb x) : ∀ (kk i : Nat), a.length - i < kk → i ≤ a.length → i ≤ b.length → a.take i = b.take i →
    ∃ z, answer_First_L1 91000 a b kk (i : Int) = some z ∧ ((∃ (k : Nat) (h1 : k < a.length) (h2 : k < b.length), z = .inl ((k : Int), 0) ∧ a.take k = b.take k ∧ a[k] ≠ b[k]) ∨ (z = .inr () ∧ a.take (min a.length b.length) = b.take (min a.length b.length))) := by
  intro kk
  induction kk with
  | zero => intro i h; omega
  | succ kk ih =>
    intro i hk hi hi2 ht
    rw [answer_First_L1, lt_eq]
    rw [show (if ln b < ln a then ln b else ln a) = ((min a.length b.length : Nat) : Int) from min_le hl]
    by_cases hlt : i < min a.length b.length
    · have h1 : i < a.length := by omega
      have h2 : i < b.length := by omega
      obtain ⟨q, q1, q2⟩ := asame_eq a[i] b[i] (ha _ (List.getElem_mem h1))
      rw [decide_eq_true (show ((i : Nat) : Int) < ((min a.length b.length : Nat) : Int) by omega), cond_true, chk_ix h1, chk_ix h2, gi_nat a i h1, gi_nat b i h2, q1, Option.bind_some]
      cases q with
      | false => exact ⟨_, rfl, Or.inl ⟨i, h1, h2, rfl, ht, fun h => by have := q2.2 h; cases this⟩⟩
      | true =>
        rw [Bool.not_true, cond_false, w64_ix (by omega)]
        exact ih (i + 1) (by omega) h1 h2 (take_eq_of ht h1 h2 (q2.1 rfl))
    · rw [decide_eq_false (show ¬ ((i : Nat) : Int) < ((min a.length b.length : Nat) : Int) by omega), cond_false]
      have : i = min a.length b.length := by omega
      subst this
      exact ⟨_, rfl, Or.inr ⟨rfl, ht⟩⟩
/-- Where two logs part. -/
structure Part (a b : List TAnswer) (k : Nat) : Prop where
  la : k ≤ a.length
  lb : k ≤ b.length
  tk : a.take k = b.take k
  ne : ∀ (h1 : k < a.length) (h2 : k < b.length), a[k] ≠ b[k]
theorem Part.symm {a b : List TAnswer} {k : Nat} (h : Part a b k) : Part b a k := ⟨h.lb, h.la, h.tk.symm, fun h1 h2 e => h.ne h2 h1 e.symm⟩
theorem Part.le {a b : List TAnswer} {j k : Nat} (h : Part a b j) (g : Part a b k) : j ≤ k := by
  rcases Nat.lt_or_ge k j with hlt | hge
  · exfalso
    have hla := h.la
    have hlb := h.lb
    have h1 : k < a.length := by omega
    have h2 : k < b.length := by omega
    apply g.ne h1 h2
    have e := congrArg (·[k]?) h.tk
    simp only [List.getElem?_take, hlt, if_true, List.getElem?_eq_getElem h1, List.getElem?_eq_getElem h2] at e
    exact Option.some.inj e
  · exact hge
theorem first_eq (a b : List TAnswer) (hl : a.length ≤ 65) (hl2 : b.length ≤ 65) (ha : ∀ x ∈ a, Nb x) (hb : ∀ x ∈ b, Nb x) (la : logE a = 0) (lb : logE b = 0) :
    ∃ (at_ e : Int), answer_First 91000 a b = some (at_, e) ∧ ((a = b ∧ at_ = 0 ∧ e = 6) ∨ (a ≠ b ∧ e = 0 ∧ ∃ k : Nat, at_ = (k : Int) ∧ Part a b k)) := by
  unfold answer_First
  rw [check2_eq a hl ha, Option.bind_some, la, show ((0 : Int) != 0) = false from rfl, cond_false, check2_eq b hl2 hb, Option.bind_some, lb, show ((0 : Int) != 0) = false from rfl, cond_false]
  obtain ⟨z, z1, z2⟩ := first_L1 a b hl ha 91000 0 (by omega) (by omega) (by omega) (by simp)
  rw [show answer_First_L1 91000 a b 91000 0 = _ from z1, Option.bind_some]
  rcases z2 with ⟨k, h1, h2, rfl, ht, hne⟩ | ⟨rfl, ht⟩
  · exact ⟨k, 0, rfl, Or.inr ⟨fun h => by subst h; exact hne rfl, rfl, k, rfl, by omega, by omega, ht, fun _ _ => hne⟩⟩
  · show ∃ (at_ e : Int), (cond (ln a == ln b) (some ((0 : Int), (6 : Int))) (some (if ln b < ln a then ln b else ln a, 0))) = some (at_, e) ∧ _
    rw [show (if ln b < ln a then ln b else ln a) = ((min a.length b.length : Nat) : Int) from min_le hl]
    by_cases he : a.length = b.length
    · rw [show (ln a == ln b) = true by unfold ln; rw [he]; simp, cond_true]
      refine ⟨0, 6, rfl, Or.inl ⟨?_, rfl, rfl⟩⟩
      rw [he, Nat.min_self, List.take_of_length_le (by omega), List.take_of_length_le (by omega)] at ht
      exact ht
    · rw [show (ln a == ln b) = false by unfold ln; rw [beq_eq_false_iff_ne]; omega, cond_false]
      exact ⟨_, 0, rfl, Or.inr ⟨fun h => he (by rw [h]), rfl, _, rfl, by omega, by omega, ht, fun h1 h2 => by omega⟩⟩
/-! ## Texts -/
def textS (l : List TAnswer) : Str := l.flatMap fun a => shown a ++ [10]
theorem text_L1 (l : List TAnswer) (hl : l.length ≤ 65) (ha : ∀ x ∈ l, Nb x) (ho : ∀ x ∈ l, okA x = true) : ∀ (kk i : Nat) (acc : Str), l.length - i < kk → i ≤ l.length → acc.length ≤ i * 90001 → answer_Text_L1 91000 l kk (i : Int) acc = some (.inr (acc ++ textS (l.drop i))) := by
  intro kk
  induction kk with
  | zero => intro i acc h; omega
  | succ kk ih =>
    intro i acc hk hi hac
    rw [answer_Text_L1]
    by_cases hlt : i < l.length
    · have hm := List.getElem_mem hlt
      have hx := ha _ hm
      have hs := shown_len l[i] hx.i (ho _ hm)
      rw [lt_dec hlt, cond_true, chk_ix hlt, gi_nat l i hlt, line_eq 91000 (by decide) (by decide) l[i] hx.i, Option.bind_some, ho _ hm, cond_true, show ((shown l[i], (0 : Int)).2 != 0) = false from rfl, cond_false]
      dsimp only
      rw [chk_pos (by unfold ln; simp only [List.length_cons, List.length_nil]; omega), chk_pos (by unfold ln; simp only [List.length_append, List.length_cons, List.length_nil]; omega), lt_eq, w64_ix (by omega), ih (i + 1) _ (by omega) hlt (by simp only [List.length_append, List.length_cons, List.length_nil]; omega), List.drop_eq_getElem_cons hlt]
      show _ = some (Sum.inr (acc ++ ((shown l[i] ++ [10]) ++ textS (l.drop (i + 1)))))
      rw [List.append_assoc]
    · rw [ge_dec (by omega), cond_false, List.drop_eq_nil_of_le (by omega)]
      show some (Sum.inr acc) = some (Sum.inr (acc ++ []))
      rw [List.append_nil]
theorem text_eq (l : List TAnswer) (hl : l.length ≤ 60) (ha : ∀ x ∈ l, Nb x) (ho : ∀ x ∈ l, okA x = true) : answer_Text 91000 l = some (textS l, 0) := by
  have e : logE l = 0 := by
    unfold logE
    rw [decide_eq_false (show ¬ (60 : Int) < ln l by unfold ln; omega), cond_false, List.all_eq_true.2 ho]; rfl
  have h := text_L1 l (by omega) ha ho 91000 0 [] (by omega) (by omega) (by simp)
  rw [List.drop_zero, List.nil_append] at h
  unfold answer_Text
  rw [check2_eq l (by omega) ha, e, Option.bind_some, show ((0 : Int) != 0) = false from rfl, cond_false, show answer_Text_L1 91000 l 91000 0 [] = _ from h]
  rfl
end Go.Proofs.YtipafpkdkhnjmaaGreatDoor

/-
  All tokens of a text: both readers read the same.
-/
import Derived.Test.YtfancfogkhclfaaGreatDoorPY
import Derived.Test.YtfancfogkhclfaaGreatDoorPC
set_option linter.unusedVariables false
namespace Go.Proofs.YtfancfogkhclfaaGreatDoor
open Go Go.V
set_option maxRecDepth 100000
/-- The tokens from a place on, at which no comment begins, and their spans. -/
inductive Toks (m : Nat) (s : Str) : Nat → List TToken → List TA2_int → Prop
  | nil : Toks m s s.length [] []
  | cons {i e j : Nat} {b : Bool} {t : TToken} {ts : List TToken} {ss : List TA2_int} : i < s.length → at2 47 42 s i = false → token_scanner_next m s (i : Int) = some (t, (e : Int)) → i < e → e ≤ s.length →
      token_scanner_comments m s (e : Int) = some (j : Int) → Com s b e j → (b = true → j = s.length) → e ≤ j → j ≤ s.length → Toks m s j ts ss → Toks m s i (t :: ts) (TA2_int.mk (i : Int) (e : Int) :: ss)
theorem Toks.len {m : Nat} {s : Str} {i : Nat} {ts : List TToken} {ss : List TA2_int} (h : Toks m s i ts ss) : ts.length = ss.length ∧ ts.length + i ≤ s.length := by
  induction h with
  | nil => exact ⟨rfl, by simp⟩
  | cons h1 h2 h3 h4 h5 h6 h7 h8 h9 h10 h11 ih => exact ⟨by simp [ih.1], by simp only [List.length_cons]; omega⟩
theorem read_all (m : Nat) (s : Str) (hs : s.length ≤ 1500) (hm : 20100 < m) : ∀ (kk i : Nat) (T : List TToken) (S : List TA2_int), s.length - i < kk → i ≤ s.length → at2 47 42 s i = false → T.length ≤ i → S.length = T.length →
    ∃ (ts : List TToken) (ss : List TA2_int), Toks m s i ts ss ∧ token_read_L1 m (s, 0) kk (T.length : Int) (i : Int) T = some (.inr ((s.length : Int), T ++ ts)) ∧
      token_read_2_L1 m (s, 0) kk (S.length : Int) (i : Int) S = some (.inr ((s.length : Int), S ++ ss)) ∧ r02_Cut_L1 m s kk T S (i : Int) = some (T ++ ts, S ++ ss) := by
  intro kk
  induction kk with
  | zero => intro i T S h; omega
  | succ kk ih =>
    intro i T S hk hi h42 hT hS
    rw [token_read_L1, token_read_2_L1, r02_Cut_L1]
    by_cases hlt : i < s.length
    · obtain ⟨t, e, n1, n2, n3, n4⟩ := next_eq m s (by omega) hm i hlt
      obtain ⟨j, b, c1, c2, c3, c4, c5, c6, c7⟩ := past_eq m s (by omega) (by omega) e n4
      have hw : ∀ k : Nat, k ≤ i → decide ((1500 : Int) < w64 ((k : Int) + 1)) = false := fun k hk => decide_eq_false (by rw [w64_ix (by omega)]; omega)
      obtain ⟨ts, ss, r1, r2, r3, r4⟩ := ih j (T ++ [t]) (S ++ [TA2_int.mk (i : Int) (e : Int)]) (by omega) c4 c5 (by simp; omega) (by simp [hS])
      refine ⟨t :: ts, TA2_int.mk (i : Int) (e : Int) :: ss, .cons hlt h42 n1 n3 n4 c1 c6 c7 c3 c4 r1, ?_, ?_, ?_⟩
      · rw [show decide ((i : Int) < ln ((s, (0 : Int)) : Str × Int).1) = true from lt_dec hlt, cond_true, hw _ hT, cond_false, show token_scanner_next m ((s, (0 : Int)) : Str × Int).1 (i : Int) = _ from n1, Option.bind_some]
        unfold token_Tokens_1
        rw [chk_pos (by unfold ln; simp only [List.length_cons, List.length_nil]; omega), lt_eq, Option.bind_some, show token_scanner_comments m ((s, (0 : Int)) : Str × Int).1 ((t, (e : Int)) : TToken × Int).2 = _ from c1, Option.bind_some, w64_ix (by omega)]
        rw [show ((T.length + 1 : Nat) : Int) = ((T ++ [t]).length : Int) from by rw [List.length_append]; rfl, show (T ++ t :: ts) = (T ++ [t]) ++ ts from by simp]
        exact r2
      · rw [show decide ((i : Int) < ln ((s, (0 : Int)) : Str × Int).1) = true from lt_dec hlt, cond_true, hw _ (by omega), cond_false, show token_scanner_next m ((s, (0 : Int)) : Str × Int).1 (i : Int) = _ from n1, Option.bind_some]
        unfold token_Spans_1
        rw [chk_pos (by unfold ln; simp only [List.length_cons, List.length_nil]; omega), lt_eq, Option.bind_some, show token_scanner_comments m ((s, (0 : Int)) : Str × Int).1 ((t, (e : Int)) : TToken × Int).2 = _ from c1, Option.bind_some, w64_ix (by omega)]
        rw [show ((S.length + 1 : Nat) : Int) = ((S ++ [TA2_int.mk (i : Int) (e : Int)]).length : Int) from by rw [List.length_append]; rfl, show (S ++ TA2_int.mk (i : Int) (e : Int) :: ss) = (S ++ [TA2_int.mk (i : Int) (e : Int)]) ++ ss from by simp]
        exact r3
      · rw [lt_dec hlt, cond_true, n2, Option.bind_some, chk_pos (by unfold ln; simp only [List.length_cons, List.length_nil]; omega), lt_eq, chk_pos (by unfold ln; simp only [List.length_cons, List.length_nil]; omega), lt_eq, c2, Option.bind_some]
        rw [r4]; simp
    · have hie : i = s.length := by omega
      subst hie
      refine ⟨[], [], .nil, ?_, ?_, ?_⟩
      · rw [show decide (((s.length : Nat) : Int) < ln ((s, (0 : Int)) : Str × Int).1) = false from ge_dec (Nat.le_refl _), cond_false, List.append_nil]
      · rw [show decide (((s.length : Nat) : Int) < ln ((s, (0 : Int)) : Str × Int).1) = false from ge_dec (Nat.le_refl _), cond_false, List.append_nil]
      · rw [ge_dec (Nat.le_refl _), cond_false, List.append_nil, List.append_nil]
/-- What is read of a text. -/
structure Reads (m : Nat) (q s : Str) (b : Bool) (j : Nat) (ts : List TToken) (ss : List TA2_int) : Prop where
  com : Com s b 0 j
  past : token_scanner_comments m s 0 = some (j : Int)
  fin : b = true → j = s.length
  le : j ≤ s.length
  no : at2 47 42 s j = false
  toks : Toks m s j ts ss
  t1 : token_Tokens m q = some (ts, 0)
  t2 : token_Spans m q = some (ss, 0)
  r1 : r02_Tokens m q = some (ts, 0)
  r2 : r02_Spans m q = some (ss, 0)
theorem reads (m : Nat) (q s : Str) (hq : cleanF q = (s, 0)) (hs : s.length ≤ 1500) (hm : 20100 < m) : ∃ (b : Bool) (j : Nat) (ts : List TToken) (ss : List TA2_int), Reads m q s b j ts ss := by
  obtain ⟨j, b, c1, c2, c3, c4, c5, c6, c7⟩ := past_eq m s (by omega) (by omega) 0 (by omega)
  obtain ⟨ts, ss, r1, r2, r3, r4⟩ := read_all m s hs hm m j [] [] (by omega) c4 c5 (by simp) rfl
  obtain ⟨l1, l2⟩ := r1.len
  have hcut : r02_Cut m s = some (ts, ss) := by
    unfold r02_Cut
    rw [show r02_Past m s 0 = _ from c2, Option.bind_some, show r02_Cut_L1 m s m [] [] (j : Int) = _ from r4]
    rfl
  refine ⟨b, j, ts, ss, c6, c1, c7, c4, c5, r1, ?_, ?_, ?_, ?_⟩
  · unfold token_Tokens token_read
    rw [hq, lt_eq, show ((((s, (0 : Int)) : Str × Int).2) != 0) = false from rfl, cond_false, show token_scanner_comments m ((s, (0 : Int)) : Str × Int).1 0 = _ from c1, Option.bind_some, show token_read_L1 m (s, 0) m 0 (j : Int) [] = _ from r2]
    rfl
  · unfold token_Spans token_read_2
    rw [hq, lt_eq, show ((((s, (0 : Int)) : Str × Int).2) != 0) = false from rfl, cond_false, show token_scanner_comments m ((s, (0 : Int)) : Str × Int).1 0 = _ from c1, Option.bind_some, show token_read_2_L1 m (s, 0) m 0 (j : Int) [] = _ from r3]
    rfl
  · unfold r02_Tokens
    rw [rclean_eq m q (by omega), hq, Option.bind_some, show ((((s, (0 : Int)) : Str × Int).2) != 0) = false from rfl, cond_false, show r02_Cut m ((s, (0 : Int)) : Str × Int).1 = _ from hcut, Option.bind_some, show decide ((1500 : Int) < ln ((ts, ss) : List TToken × List TA2_int).1) = false from decide_eq_false (by unfold ln; show ¬ (1500 : Int) < (ts.length : Int); omega), cond_false]
  · unfold r02_Spans
    rw [rclean_eq m q (by omega), hq, Option.bind_some, show ((((s, (0 : Int)) : Str × Int).2) != 0) = false from rfl, cond_false, show r02_Cut m ((s, (0 : Int)) : Str × Int).1 = _ from hcut, Option.bind_some, show decide ((1500 : Int) < ln ((ts, ss) : List TToken × List TA2_int).2) = false from decide_eq_false (by unfold ln; show ¬ (1500 : Int) < (ss.length : Int); omega), cond_false]
theorem clean_500 {q : Str} (h : q.length ≤ 500) : cleanF q = (cleanS false q, 0) ∧ (cleanS false q).length ≤ 1500 := ⟨cleanF_small q (by omega), by have := len_clean false q; omega⟩
/-! ## Lists that are the same -/
theorem same_L1 (m : Nat) (l : List TToken) (hl : l.length < 1000000) : ∀ (kk i : Nat), l.length - i < kk → i ≤ l.length → r02_Same_L1 m l l kk (i : Int) = some (.inr ()) := by
  intro kk
  induction kk with
  | zero => intro i h; omega
  | succ kk ih =>
    intro i hk hi
    rw [r02_Same_L1]
    by_cases hlt : i < l.length
    · rw [lt_dec hlt, cond_true, chk_ix hlt, chk_ix hlt]
      simp only [BEq.rfl, Bool.and_true, Bool.not_true]
      rw [lt_eq, cond_false, w64_ix (by omega)]
      exact ih (i + 1) (by omega) hlt
    · rw [ge_dec (by omega), cond_false]
theorem same_refl (m : Nat) (l : List TToken) (hl : l.length < 1000000) (hm : l.length < m) : r02_Same m l l = some true := by
  unfold r02_Same
  rw [show (ln l != ln l) = false from by simp, cond_false, show r02_Same_L1 m l l m 0 = _ from same_L1 m l hl m 0 (by omega) (by omega)]
  rfl
theorem sameS_L1 (m : Nat) (l : List TA2_int) (hl : l.length < 1000000) : ∀ (kk i : Nat), l.length - i < kk → i ≤ l.length → r02_SameSpans_L1 m l l kk (i : Int) = some (.inr ()) := by
  intro kk
  induction kk with
  | zero => intro i h; omega
  | succ kk ih =>
    intro i hk hi
    rw [r02_SameSpans_L1]
    by_cases hlt : i < l.length
    · rw [lt_dec hlt, cond_true, chk_ix hlt, chk_ix hlt]
      simp only [BEq.rfl, Bool.and_true, Bool.not_true]
      rw [lt_eq, cond_false, w64_ix (by omega)]
      exact ih (i + 1) (by omega) hlt
    · rw [ge_dec (by omega), cond_false]
theorem sameS_refl (m : Nat) (l : List TA2_int) (hl : l.length < 1000000) (hm : l.length < m) : r02_SameSpans m l l = some true := by
  unfold r02_SameSpans
  rw [show (ln l != ln l) = false from by simp, cond_false, show r02_SameSpans_L1 m l l m 0 = _ from sameS_L1 m l hl m 0 (by omega) (by omega)]
  rfl
end Go.Proofs.YtfancfogkhclfaaGreatDoor

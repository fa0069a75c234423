/-
  Values as text: thousandths, by both writers. No program in sight.
-/
import Derived.Test.YtemchjneoalnoaaDoorN1
set_option linter.unusedVariables false
set_option maxRecDepth 100000
namespace Go.Proofs.YtemchjneoalnoaaDoor
open Go Go.V Go.RowKit
theorem trim_len (l cs : Str) : (Lib.trimRightS l cs).length ≤ l.length := by
  unfold Lib.trimRightS
  rw [List.length_reverse]
  have := (List.dropWhile_sublist (cs.contains ·) (l := l.reverse)).length_le
  rw [List.length_reverse] at this
  exact this
theorem sub_len (s : Str) (i j : Int) : (sub s i j).length ≤ s.length := by
  unfold sub
  rw [List.length_take, List.length_drop]; omega
theorem thou_more : ∀ (k K : Nat), k ≤ K → ∀ {s t : Str}, r26_Thousandths_L1 300 k s = some t → r26_Thousandths_L1 300 K s = some t
  | 0, _, _, s, t, h => by cases h
  | k + 1, 0, hk, s, t, h => by omega
  | k + 1, K + 1, hk, s, t, h => by
    rw [r26_Thousandths_L1] at h ⊢
    obtain ⟨h1, h⟩ := chkE h
    rw [chk_pos h1]
    cases hc : ((bat s (w64 ((ln s) - 1))) == 48) with
    | false => rw [hc, cond_false] at h; rw [cond_false]; exact h
    | true =>
      rw [hc, cond_true] at h
      rw [cond_true]
      obtain ⟨h2, h⟩ := chkE h
      rw [chk_pos h2]
      exact thou_more k K (by omega) h
/-- A number of thousandths as text. -/
def numS (u : Nat) : Str := Lib.decDigits (u / 1000) ++ cond (Nat.beq (u % 1000) 0) [] (46 :: Lib.trimRightS (sub (Lib.decDigits (1000 + u % 1000)) 1 (ln (Lib.decDigits (1000 + u % 1000)))) [48])
theorem x_tr (s : Str) (h : s.length ≤ 1000) : x_strings_TrimRight s [48] = some (Lib.trimRightS s [48]) := by
  unfold x_strings_TrimRight
  rw [chk_pos ⟨by decide, by decide, by omega⟩]
theorem beq_z {n : Nat} (h : n ≠ 0) : Nat.beq n 0 = false := by
  cases n with
  | zero => exact absurd rfl h
  | succ n => rfl
theorem number_pos (u : Nat) (hu : u ≤ 1000000000000) (pre : Str) (hp : pre.length ≤ 1) : (Option.bind (x_FormatInt10 (w64 (Int.tdiv (u : Int) 1000))) fun y11 =>
    Option.bind (cond (decide (0 < (Int.tmod (u : Int) 1000))) (
      Option.bind (x_FormatInt10 (w64 (1000 + (Int.tmod (u : Int) 1000)))) fun y19 =>
      chk (0 ≤ (1 : Int) ∧ (1 : Int) ≤ ln y19) <|
      Option.bind (x_strings_TrimRight (sub y19 1 (ln y19)) [48]) fun y21 =>
      chk (ln [46] + ln y21 ≤ 9223372036854775807) <|
      chk (ln y11 + ln ([46] ++ y21) ≤ 9223372036854775807) <|
      some (y11 ++ ([46] ++ y21))) (some y11)) fun (z14 : Str) =>
    chk (ln pre + ln z14 ≤ 9223372036854775807) <| some (pre ++ z14)) = some (pre ++ numS u) := by
  have hm : Int.tmod (u : Int) 1000 = ((u % 1000 : Nat) : Int) := by rw [tmod_pos (by omega)]; omega
  have hd : w64 (Int.tdiv (u : Int) 1000) = ((u / 1000 : Nat) : Int) := by rw [tdiv_pos (by omega), w64_id (by omega) (by omega)]; omega
  have hl := dd_len 15 (u / 1000) (by show _ < 10000000000000000; omega)
  rw [hm, hd, x_fi (by omega), Option.bind_some]
  unfold numS
  by_cases h0 : u % 1000 = 0
  · rw [h0, show decide ((0 : Int) < ((0 : Nat) : Int)) = false from rfl, cond_false, Option.bind_some, chk_pos (by unfold ln; omega), show Nat.beq 0 0 = true from rfl, cond_true, List.append_nil]
  · have hp4 := (part_at (r := u % 1000) (by omega) (by omega)).1
    have hs : w64 (1000 + ((u % 1000 : Nat) : Int)) = ((1000 + u % 1000 : Nat) : Int) := by rw [w64_id (by omega) (by omega)]; omega
    have hsl := sub_len (Lib.decDigits (1000 + u % 1000)) 1 (ln (Lib.decDigits (1000 + u % 1000)))
    have htl := trim_len (sub (Lib.decDigits (1000 + u % 1000)) 1 (ln (Lib.decDigits (1000 + u % 1000)))) [48]
    have hp4' : (Lib.decDigits (1000 + u % 1000)).length = 4 := by unfold ln at hp4; omega
    have ck : ∀ {α β : Type} (x : List α) (y : List β), x.length ≤ 2000 → y.length ≤ 2000 → ln x + ln y ≤ 9223372036854775807 := fun x y h1 h2 => by unfold ln; omega
    rw [beq_z h0, cond_false, show decide ((0 : Int) < ((u % 1000 : Nat) : Int)) = true from decide_eq_true (by omega), cond_true, hs, x_fi (by omega), Option.bind_some, chk_pos (by omega), x_tr _ (by omega), Option.bind_some, chk_pos (ck _ _ (by first | omega | (simp only [List.length_append, List.length_cons, List.length_nil]; omega)) (by first | omega | (simp only [List.length_append, List.length_cons, List.length_nil]; omega))),
      chk_pos (ck _ _ (by first | omega | (simp only [List.length_append, List.length_cons, List.length_nil]; omega)) (by first | omega | (simp only [List.length_append, List.length_cons, List.length_nil]; omega))), Option.bind_some, chk_pos (ck _ _ (by first | omega | (simp only [List.length_append, List.length_cons, List.length_nil]; omega)) (by first | omega | (simp only [List.length_append, List.length_cons, List.length_nil]; omega)))]
    rfl
theorem number_nat (u : Nat) (hu : u ≤ 1000000000000) : parseval_number (u : Int) = some (numS u) := by
  unfold parseval_number
  rw [show decide ((u : Int) < 0) = false from decide_eq_false (by omega), cond_false, Option.bind_some]
  exact number_pos u hu [] (by decide)
theorem number_neg (u : Nat) (h0 : 0 < u) (hu : u ≤ 1000000000000) : parseval_number (-(u : Int)) = some (45 :: numS u) := by
  unfold parseval_number
  rw [show decide (-(u : Int) < 0) = true from decide_eq_true (by omega), cond_true, Option.bind_some, show w64 (0 - -(u : Int)) = (u : Int) by rw [w64_id (by omega) (by omega)]; omega]
  exact number_pos u hu [45] (by decide)
theorem thou_nat (u : Nat) (hu : u ≤ 1000000000000) (k : Nat) : r26_Thousandths_r 300 (k + 1) (u : Int) = some (numS u) := by
  have hm : Int.tmod (u : Int) 1000 = ((u % 1000 : Nat) : Int) := by rw [tmod_pos (by omega)]; omega
  have hd : w64 (Int.tdiv (u : Int) 1000) = ((u / 1000 : Nat) : Int) := by rw [tdiv_pos (by omega), w64_id (by omega) (by omega)]; omega
  have hl := dd_len 15 (u / 1000) (by show _ < 10000000000000000; omega)
  rw [r26_Thousandths_r, show decide ((u : Int) < 0) = false from decide_eq_false (by omega), cond_false, hm, hd, whole_eq 300 (by decide) _ (by omega), Option.bind_some]
  unfold numS
  by_cases h0 : u % 1000 = 0
  · rw [h0, show (((0 : Nat) : Int) == 0) = true from rfl, cond_true, show Nat.beq 0 0 = true from rfl, cond_true, List.append_nil]
  · obtain ⟨hp4, hL⟩ := part_at (r := u % 1000) (by omega) (by omega)
    have hs : w64 (1000 + ((u % 1000 : Nat) : Int)) = ((1000 + u % 1000 : Nat) : Int) := by rw [w64_id (by omega) (by omega)]; omega
    have hsl := sub_len (Lib.decDigits (1000 + u % 1000)) 1 (ln (Lib.decDigits (1000 + u % 1000)))
    have htl := trim_len (sub (Lib.decDigits (1000 + u % 1000)) 1 (ln (Lib.decDigits (1000 + u % 1000)))) [48]
    have hp4' : (Lib.decDigits (1000 + u % 1000)).length = 4 := by unfold ln at hp4; omega
    have ck : ∀ {α β : Type} (x : List α) (y : List β), x.length ≤ 2000 → y.length ≤ 2000 → ln x + ln y ≤ 9223372036854775807 := fun x y h1 h2 => by unfold ln; omega
    rw [show (((u % 1000 : Nat) : Int) == 0) = false from beq_eq_false_iff_ne.2 (by omega), cond_false, hs, whole_eq 300 (by decide) _ (by omega), Option.bind_some, chk_pos (by omega), beq_z h0, cond_false, thou_more 299 300 (by decide) hL, Option.bind_some,
      chk_pos (ck _ _ (by first | omega | (simp only [List.length_append, List.length_cons, List.length_nil]; omega)) (by first | omega | (simp only [List.length_append, List.length_cons, List.length_nil]; omega))), chk_pos (ck _ _ (by first | omega | (simp only [List.length_append, List.length_cons, List.length_nil]; omega)) (by first | omega | (simp only [List.length_append, List.length_cons, List.length_nil]; omega))), List.append_assoc]
    rfl
theorem thou_neg (u : Nat) (h0 : 0 < u) (hu : u ≤ 1000000000000) : r26_Thousandths 300 (-(u : Int)) = some (45 :: numS u) := by
  have hn : (numS u).length ≤ 1000 := by
    have hl := dd_len 15 (u / 1000) (by show _ < 10000000000000000; omega)
    unfold numS
    rw [List.length_append]
    by_cases h : u % 1000 = 0
    · rw [h, show Nat.beq 0 0 = true from rfl, cond_true]; simp; omega
    · have hp4 := (part_at (r := u % 1000) (by omega) (by omega)).1
      have hsl := sub_len (Lib.decDigits (1000 + u % 1000)) 1 (ln (Lib.decDigits (1000 + u % 1000)))
      have htl := trim_len (sub (Lib.decDigits (1000 + u % 1000)) 1 (ln (Lib.decDigits (1000 + u % 1000)))) [48]
      have hp4' : (Lib.decDigits (1000 + u % 1000)).length = 4 := by unfold ln at hp4; omega
      rw [beq_z h, cond_false, List.length_cons]; omega
  unfold r26_Thousandths
  rw [show (300 : Nat) = 299 + 1 from rfl, r26_Thousandths_r, show decide (-(u : Int) < 0) = true from decide_eq_true (by omega), cond_true, show w64 (0 - -(u : Int)) = (u : Int) by rw [w64_id (by omega) (by omega)]; omega, show r26_Thousandths_r (299 + 1) 299 (u : Int) = _ from thou_nat u hu 298, Option.bind_some, chk_pos (by unfold ln; simp only [List.length_cons, List.length_nil]; omega)]
  rfl
theorem num_both {n : Int} (h1 : -1000000000000 ≤ n) (h2 : n ≤ 1000000000000) : ∃ s, parseval_number n = some s ∧ r26_Thousandths 300 n = some s ∧ s.length ≤ 1001 := by
  have hn : ∀ u, u ≤ 1000000000000 → (numS u).length ≤ 1000 := fun u hu => by
    have hl := dd_len 15 (u / 1000) (by show _ < 10000000000000000; omega)
    unfold numS
    rw [List.length_append]
    by_cases h : u % 1000 = 0
    · rw [h, show Nat.beq 0 0 = true from rfl, cond_true]; simp; omega
    · have hp4 := (part_at (r := u % 1000) (by omega) (by omega)).1
      have hsl := sub_len (Lib.decDigits (1000 + u % 1000)) 1 (ln (Lib.decDigits (1000 + u % 1000)))
      have htl := trim_len (sub (Lib.decDigits (1000 + u % 1000)) 1 (ln (Lib.decDigits (1000 + u % 1000)))) [48]
      have hp4' : (Lib.decDigits (1000 + u % 1000)).length = 4 := by unfold ln at hp4; omega
      rw [beq_z h, cond_false, List.length_cons]; omega
  by_cases h0 : n < 0
  · obtain ⟨u, rfl⟩ : ∃ u : Nat, n = -(u : Int) := ⟨n.natAbs, by omega⟩
    exact ⟨_, number_neg u (by omega) (by omega), thou_neg u (by omega) (by omega), by have := hn u (by omega); simp only [List.length_cons]; omega⟩
  · obtain ⟨u, rfl⟩ : ∃ u : Nat, n = (u : Int) := ⟨n.toNat, by omega⟩
    exact ⟨_, number_nat u (by omega), thou_nat u (by omega) 299, by have := hn u (by omega); omega⟩
end Go.Proofs.YtemchjneoalnoaaDoor

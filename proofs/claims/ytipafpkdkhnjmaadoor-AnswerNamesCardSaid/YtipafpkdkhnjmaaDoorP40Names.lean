/-
  AnswerNames: the model comes to 'true'; what is said of its long texts stands by itself. No program in sight.
-/
import Derived.Test.YtipafpkdkhnjmaaDoorQ2
set_option linter.unusedVariables false
set_option maxRecDepth 100000
namespace Go.Proofs.YtipafpkdkhnjmaaDoor
open Go Go.V Go.RowKit
theorem ln_rep (n : Nat) : (toB (List.replicate n (0 : Int))).length = n := by unfold toB; rw [List.length_map, List.length_replicate]
theorem z0 : answer_Check 128 ⟨0, 0, [], []⟩ = some 0 := by kernel_rfl
theorem nil0 : answer_check 128 [] = some 0 := by kernel_rfl
theorem bad_1 (a : TAnswer) (hc : answer_Check 128 a = some 8) : answer_check 128 [a] = some 8 := by
  have h : answer_check_L1 128 [a] (127 + 1) ((0 : Nat) : Int) = some (.inl 8) := by
    rw [answer_check_L1, lt_dec (by simp), cond_true, chk_ix (by simp), show gi [a] ((0 : Nat) : Int) = a from rfl, hc, Option.bind_some, show ((8 : Int) != 0) = true from rfl, cond_true]
  unfold answer_check
  rw [show decide ((60 : Int) < ln [a]) = false from rfl, cond_false, show answer_check_L1 128 [a] 128 0 = _ from h]
  rfl
theorem bad_2 (a : TAnswer) (hc : answer_Check 128 a = some 8) : answer_check 128 [⟨0, 0, [], []⟩, a] = some 8 := by
  have h : answer_check_L1 128 [⟨0, 0, [], []⟩, a] (126 + 1 + 1) ((0 : Nat) : Int) = some (.inl 8) := by
    rw [answer_check_L1, lt_dec (by simp), cond_true, chk_ix (by simp), show gi [(⟨0, 0, [], []⟩ : TAnswer), a] ((0 : Nat) : Int) = ⟨0, 0, [], []⟩ from rfl, z0, Option.bind_some, show ((0 : Int) != 0) = false from rfl, cond_false, w64_ix (by omega), answer_check_L1, lt_dec (by simp), cond_true, chk_ix (by simp), show gi [(⟨0, 0, [], []⟩ : TAnswer), a] ((0 + 1 : Nat) : Int) = a from rfl, hc, Option.bind_some, show ((8 : Int) != 0) = true from rfl, cond_true]
  unfold answer_check
  rw [show decide ((60 : Int) < ln [(⟨0, 0, [], []⟩ : TAnswer), a]) = false from rfl, cond_false, show answer_check_L1 128 [⟨0, 0, [], []⟩, a] 128 0 = _ from h]
  rfl
theorem bad_x (a : TAnswer) (hl : a.Texts.length < 100) (ht : tot a.Texts ≤ 1000000) (ho : okA a = false) : law40_bad 128 a = some true := by
  have hc : answer_Check 128 a = some 8 := by rw [check_eq 128 a (by omega) (by omega) (by omega), ho]; rfl
  have hL : answer_Line 128 a = some ([], 8) := by unfold answer_Line; rw [hc]; rfl
  have hT : answer_Text 128 ([(TAnswer.mk 0 0 [] []), a] : List TAnswer) = some ([], 8) := by unfold answer_Text; rw [bad_2 a hc]; rfl
  have hF : answer_First 128 [] ([a] : List TAnswer) = some (0, 8) := by unfold answer_First; rw [nil0, Option.bind_some, show ((0 : Int) != 0) = false from rfl, cond_false, bad_1 a hc]; rfl
  unfold law40_bad
  rw [hL, hT, hF, hc]
  rfl
theorem tot_1 (s : Str) : tot [s] = s.length := by rw [tot_cons]; rfl
theorem tot_2 (s t : Str) : tot [s, t] = s.length + t.length := by rw [tot_cons, tot_1]
theorem not_ok (l : List Str) (h : 20000 < tot l) : okA ⟨0, 0, l, []⟩ = false := by
  cases hk : okA ⟨0, 0, l, []⟩
  · rfl
  · have := (okA_iff.1 hk).2.2.1
    exact absurd this (by show ¬ tot l ≤ 20000; omega)
theorem sub_len (s : Str) (n : Nat) (h : n ≤ s.length) : (sub s 0 (n : Int)).length = n := by
  unfold sub
  simp only [Int.toNat_natCast, List.length_take, List.length_drop]
  show min (n - 0) (s.length - 0) = n
  omega
abbrev rp (n : Int) : Str := toB (List.replicate n.toNat (0 : Int))
theorem long4 : law40_bad 128 (TAnswer.mk 0 0 ([rp 20001] : List Str) []) = some true ∧ law40_bad 128 (TAnswer.mk 0 0 ([sub (rp 20001) 0 10000, sub (rp 20001) 0 10001] : List Str) []) = some true ∧
    answer_Check 128 (TAnswer.mk 0 0 ([sub (rp 20001) 0 10000, sub (rp 20001) 0 10000] : List Str) []) = some 0 ∧ ln (rp 20001) = 20001 := by
  have l4 : (rp 20001).length = 20001 := ln_rep ((20001 : Int)).toNat
  generalize rp 20001 = s4 at *
  have u1 : (sub s4 0 10000).length = 10000 := sub_len s4 10000 (by omega)
  have u2 : (sub s4 0 10001).length = 10001 := sub_len s4 10001 (by omega)
  refine ⟨?_, ?_, ?_, ?_⟩
  · exact bad_x _ (by show ([s4] : List Str).length < 100; simp) (by show tot [s4] ≤ 1000000; rw [tot_1]; omega) (not_ok _ (by rw [tot_1]; omega))
  · exact bad_x _ (by show ([sub s4 0 10000, sub s4 0 10001] : List Str).length < 100; simp) (by show tot [sub s4 0 10000, sub s4 0 10001] ≤ 1000000; rw [tot_2]; omega) (not_ok _ (by rw [tot_2]; omega))
  · rw [check_eq 128 _ (by show ([sub s4 0 10000, sub s4 0 10000] : List Str).length < 1000000; simp) (by show tot [sub s4 0 10000, sub s4 0 10000] ≤ 10000000000; rw [tot_2]; omega) (by show ([sub s4 0 10000, sub s4 0 10000] : List Str).length < 128; simp)]
    have : okA ⟨0, 0, [sub s4 0 10000, sub s4 0 10000], []⟩ = true := okA_iff.2 ⟨by show 0 ≤ (0 : Int) ∧ (0 : Int) ≤ 99; omega, by show ([sub s4 0 10000, sub s4 0 10000] : List Str).length ≤ 64; simp, by show tot [sub s4 0 10000, sub s4 0 10000] ≤ 20000; rw [tot_2]; omega, by show ([] : List Int).length ≤ 64; simp⟩
    rw [this]
    rfl
  · unfold ln; omega
theorem long9 : answer_ReadLine 128 (rp 90001) = some (⟨0, 0, [], []⟩, 28) := by
  have l9 : (rp 90001).length = 90001 := ln_rep ((90001 : Int)).toNat
  generalize rp 90001 = s9 at *
  unfold answer_ReadLine
  rw [decide_eq_true (show (90000 : Int) < ln s9 by unfold ln; omega), cond_true]
theorem long5 : answer_ReadText 128 (rp 5400001) = some ([], 28) := by
  have l5 : (rp 5400001).length = 5400001 := ln_rep ((5400001 : Int)).toNat
  generalize rp 5400001 = s5 at *
  unfold answer_ReadText
  rw [decide_eq_true (show (5400000 : Int) < ln s5 by unfold ln; omega), cond_true]
theorem plain_AnswerNames : law40_AnswerNames 128 = some true := by
  obtain ⟨b1, b2, c3, n4⟩ := long4
  have r4 := long9
  have r5 := long5
  unfold rp at *
  unfold law40_AnswerNames
  rw [b1, b2, c3, r4, r5, n4]
  clear b1 b2 c3 n4 r4 r5
  show (_ : Option Bool) = some true
  kernel_rfl
end Go.Proofs.YtipafpkdkhnjmaaDoor

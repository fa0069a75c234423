/-
 A value that a property has is written, and read back. No program in sight.
-/
import Derived.Test.YtemchjneoalnoaaGreatDoorB1
set_option linter.unusedVariables false
set_option maxRecDepth 100000
namespace Go.Proofs.YtemchjneoalnoaaGreatDoor
open Go Go.V Go.RowKit
theorem reads_of (prop : Int) (s : Str) (v' : TValue) (x : TVal) (hO : r04_Of 300 s = some [v']) (hP : parseval_Parse 300 prop [v'] = some (x, 0)) : law26_reads 300 prop s x = some true := by
 unfold law26_reads
 rw [hO, Option.bind_some, hP, Option.bind_some, lt_eq]
 dsimp only
 rw [beq_self_eq_true, beq_self_eq_true, beq_self_eq_true, beq_self_eq_true, beq_self_eq_true, beq_self_eq_true, beq_self_eq_true, beq_self_eq_true]
 rfl
theorem scan_ex (t : Int → Bool) : ∀ (k i : Nat), (scanO t k i).isSome = true → ∃ j : Nat, i ≤ j ∧ j < i + k ∧ t (j : Int) = true
 | 0, i, h => by cases h
 | k + 1, i, h => by
  rw [scanO] at h
  cases ht : t (i : Int)
  ·rw [ht] at h
   obtain ⟨j, h1, h2, h3⟩ := scan_ex t k (i + 1) h
   exact ⟨j, by omega, by omega, h3⟩
  ·exact ⟨i, Nat.le_refl _, by omega, ht⟩
theorem word_all : ((List.range 18).all fun p => (gi tab (p : Int)).Words.all fun w => decide (law26_reads 300 (p : Int) w ⟨1, w, 0, c0⟩ = some true)) = true := by kernel_rfl
theorem cur_all : ((List.range 18).all fun p => !((gi tab (p : Int)).Kinds.contains 8) || decide (law26_reads 300 (p : Int) [99, 117, 114, 114, 101, 110, 116, 99, 111, 108, 111, 114] ⟨8, [], 0, c0⟩ = some true)) = true := by kernel_rfl
theorem five_six : ((List.range 18).all fun p => !((gi tab (p : Int)).Kinds.contains 5) || !((gi tab (p : Int)).Kinds.contains 6)) = true := by kernel_rfl
theorem hasW_mem {p : TProp} {w : Str} (h : hasW p w = true) : w ∈ p.Words := by
 obtain ⟨j, _, h2, h3⟩ := scan_ex _ _ _ h
 have hj : j < p.Words.length := by omega
 have h4 : w = gi p.Words (j : Int) := eq_of_beq h3
 rw [h4, gi_nat _ j hj]
 exact List.getElem_mem hj
theorem hasK_mem {p : TProp} {v : TVal} (h : hasK p v = true) : p.Kinds.contains v.Kind = true := by
 unfold hasK at h
 cases hs : (scanO (fun i => v.Kind == gi p.Kinds i) p.Kinds.length 0).isSome
 ·rw [hs] at h; cases h
 ·obtain ⟨j, _, h2, h3⟩ := scan_ex _ _ _ hs
  have hj : j < p.Kinds.length := by omega
  have h4 : v.Kind = gi p.Kinds (j : Int) := eq_of_beq h3
  rw [h4, gi_nat _ j hj]
  exact List.contains_iff_mem.2 (List.getElem_mem hj)
theorem has_ok {prop : Int} {v : TVal} (hh : props_Has 64 prop v = some (true, 0)) : (∃ p : Nat, p < 18 ∧ prop = (p : Int)) ∧ props_Check v = some 0 ∧ r25_Check v = some 0 ∧ (v.Kind = 1 → v.Word ∈ (gi tab prop).Words) ∧ (v.Kind ≠ 1 → (gi tab prop).Kinds.contains v.Kind = true) := by
 obtain ⟨e, h1, h2⟩ := check_some v
 rw [has_p prop v e h1] at hh
 have hh := Option.some.inj hh
 unfold hasA at hh
 cases hr : cond (decide (prop < 0)) true (decide (18 ≤ prop))
 ·have h0 := rng hr
  rw [tab_ln] at h0
  rw [hr, cond_false] at hh
  by_cases he : e = 0
  ·subst he
   have hh : cond (v.Kind == 1) (hasW (gi tab prop) v.Word, (0 : Int)) (hasK (gi tab prop) v, 0) = (true, 0) := hh
   refine ⟨⟨prop.toNat, by omega, by omega⟩, h1, h2, fun hk => ?_, fun hk => ?_⟩
   ·rw [hk] at hh
    exact hasW_mem (Prod.mk.inj hh).1
   ·rw [show (v.Kind == 1) = false from beq_eq_false_iff_ne.2 hk] at hh
    exact hasK_mem (Prod.mk.inj hh).1
  ·rw [show (e != 0) = true from bne_iff_ne.2 he] at hh
   cases hh
 ·rw [hr] at hh; cases hh
theorem not_six {prop : Int} (p : Nat) (hp : p < 18) (e : prop = (p : Int)) (h5 : (gi tab prop).Kinds.contains 5 = true) (n : Int) : ∃ q, props_Has 64 prop ⟨6, [], n, c0⟩ = some (false, q) := by
 subst e
 have h := nat_all five_six hp
 rw [h5] at h
 have h6 : (gi tab (p : Int)).Kinds.contains 6 = false := by simpa using h
 obtain ⟨e, h1, _⟩ := check_some ⟨6, [], n, c0⟩
 rw [has_p _ _ e h1]
 unfold hasA
 rw [decide_eq_false (show ¬ (p : Int) < 0 from by omega), decide_eq_false (show ¬ (18 : Int) ≤ (p : Int) from by omega), cond_false, cond_false]
 cases (e != 0)
 ·rw [cond_false]
  have hk : hasK (gi tab (p : Int)) ⟨6, [], n, c0⟩ = false := by
   cases hk : hasK (gi tab (p : Int)) ⟨6, [], n, c0⟩
   ·rfl
   ·have := hasK_mem hk
    rw [h6] at this; cases this
  rw [show ((⟨6, [], n, c0⟩ : TVal).Kind == 1) = false from rfl, cond_false, hk]
  exact ⟨0, rfl⟩
 ·exact ⟨0, rfl⟩
theorem chk_str {β : Type} (a b : Str) (k : Option β) (ha : a.length ≤ 1000) (hb : b.length ≤ 1000) : chk (ln a + ln b ≤ 9223372036854775807) k = k := chk_pos (by unfold ln; omega)
theorem write_num (k n : Int) (U : Str) (h1 : -1000000000000 ≤ n) (h2 : n ≤ 1000000000000) (hc : props_Check ⟨k, [], n, c0⟩ = some 0) (hk : (k = 2 ∧ U = [112, 120]) ∨ (k = 3 ∧ U = [101, 109]) ∨ (k = 4 ∧ U = [114, 101, 109]) ∨ (k = 5 ∧ U = [])) : parseval_Write 300 ⟨k, [], n, c0⟩ = some (numI n ++ U, 0) := by
 have hl := (numI_t n h1 h2).len
 have hn := number_i n h1 h2
 unfold parseval_Write
 rw [hc, Option.bind_some, bne_self_eq_false, cond_false]
 rcases hk with ⟨rfl, rfl⟩ | ⟨rfl, rfl⟩ | ⟨rfl, rfl⟩ | ⟨rfl, rfl⟩
 ·show Option.bind (parseval_number n) (fun y62 => chk (ln y62 + ln ([112, 120] : Str) ≤ 9223372036854775807) (some (y62 ++ ([112, 120] : Str), (0 : Int)))) = _
  rw [hn, Option.bind_some, chk_str _ _ _ (by omega) (by decide)]
 ·show Option.bind (Option.bind (chk (ln ([] : Str) + ln ([101, 109] : Str) ≤ 9223372036854775807) (some (Sum.inr (([] : Str) ++ [101, 109], n)))) _) _ = _
  rw [chk_str _ _ _ (by decide) (by decide), Option.bind_some]
  show Option.bind (parseval_number n) (fun y62 => chk (ln y62 + ln ([101, 109] : Str) ≤ 9223372036854775807) (some (y62 ++ ([101, 109] : Str), (0 : Int)))) = _
  rw [hn, Option.bind_some, chk_str _ _ _ (by omega) (by decide)]
 ·show Option.bind (Option.bind (chk (ln ([114] : Str) + ln ([101, 109] : Str) ≤ 9223372036854775807) (some (Sum.inr (([114] : Str) ++ [101, 109], n)))) _) _ = _
  rw [chk_str _ _ _ (by decide) (by decide), Option.bind_some]
  show Option.bind (parseval_number n) (fun y62 => chk (ln y62 + ln ([114, 101, 109] : Str) ≤ 9223372036854775807) (some (y62 ++ ([114, 101, 109] : Str), (0 : Int)))) = _
  rw [hn, Option.bind_some, chk_str _ _ _ (by omega) (by decide)]
 ·show Option.bind (parseval_number n) (fun y62 => chk (ln y62 + ln ([] : Str) ≤ 9223372036854775807) (some (y62 ++ ([] : Str), (0 : Int)))) = _
  rw [hn, Option.bind_some, chk_str _ _ _ (by omega) (by decide)]
end Go.Proofs.YtemchjneoalnoaaGreatDoor

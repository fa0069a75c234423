/-
  Names, addresses and functions; marks of several bytes: both readers see the same.
-/
import Derived.Test.YtfancfogkhclfaaGreatDoorPT
set_option linter.unusedVariables false
namespace Go.Proofs.YtfancfogkhclfaaGreatDoor
open Go Go.V
set_option maxRecDepth 100000
theorem ident_eq (m : Nat) (s : Str) (hs : s.length ≤ 4000) (hm : 20100 < m) (i : Nat) (hi : i < s.length) (hn : nam s i = true) :
    ∃ (t : TToken) (e : Nat), token_scanner_ident m s (i : Int) = some (t, (e : Int)) ∧ r02_word m s (i : Int) = some (t, (e : Int)) ∧ i < e ∧ e ≤ s.length := by
  obtain ⟨w, j, f1, f2, f3, f4, hwl⟩ := word_all m s (by omega) (by omega) (by omega) i (by omega)
  have hgt := word_gt m s (by omega) (by omega) (by omega) i hi (nam_let hn) f1
  unfold token_scanner_ident r02_word
  rw [f1, f2, Option.bind_some, Option.bind_some]
  dsimp only
  rw [pk0 s j (by omega), at_nat, Option.bind_some, Option.bind_some, show (pk s j (-1) != 40) = !(tst (isb 40) s j) from pk_ne s j (-1) 40 (by omega), show (pk s j 0 != 40) = !(tst (isb 40) s j) from pk_ne s j 0 40 (by omega)]
  cases h40 : tst (isb 40) s j with
  | false =>
    rw [Bool.not_false, cond_true, cond_true]
    exact ⟨_, j, rfl, rfl, by omega, f4⟩
  | true =>
    have hj := tst_lt h40
    obtain ⟨r, a1, a2⟩ := alike_eq m w [117, 114, 108] (by omega) (by simp) (by omega) (by simp; omega)
    rw [Bool.not_true, cond_false, cond_false, a1, a2, Option.bind_some, Option.bind_some, w64_ix (by omega)]
    cases r with
    | false =>
      rw [cond_false, cond_false, Option.bind_some, sumK_inr]
      exact ⟨_, j + 1, rfl, rfl, by omega, hj⟩
    | true =>
      obtain ⟨k, w1, w2, w3, w4, w5, w6⟩ := whiles_eq m s (by omega) (by omega) (j + 1) hj
      rw [cond_true, cond_true, w1, w2, Option.bind_some, Option.bind_some, pk0 s k (by omega), at_nat, Option.bind_some, Option.bind_some,
        show (pk s k (-1) != 34) = !(tst (isb 34) s k) from pk_ne s k (-1) 34 (by omega), show (pk s k 0 != 34) = !(tst (isb 34) s k) from pk_ne s k 0 34 (by omega),
        show (pk s k (-1) != 39) = !(tst (isb 39) s k) from pk_ne s k (-1) 39 (by omega), show (pk s k 0 != 39) = !(tst (isb 39) s k) from pk_ne s k 0 39 (by omega)]
      cases cond (!(tst (isb 34) s k)) (!(tst (isb 39) s k)) false with
      | true =>
        obtain ⟨t, e, u1, u2, u3, u4⟩ := url_eq m s (by omega) (by omega) (by omega) (j + 1) hj
        rw [cond_true, cond_true, u1, u2]
        exact ⟨t, e, rfl, rfl, by omega, u4⟩
      | false =>
        rw [cond_false, cond_false, Option.bind_some, sumK_inr]
        exact ⟨_, j + 1, rfl, rfl, by omega, hj⟩
/-! ## Marks of several bytes -/
theorem has_eq (s : Str) (i : Nat) (p : Str) (hs : s.length < 100000) (hi : i ≤ s.length) (hp : p.length < 100) :
    ∃ b, strings_HasPrefix (sub s (i : Int) (ln s)) p = some b ∧ r02_has s (i : Int) p = some b ∧ (b = true → i + p.length ≤ s.length) := by
  have hsub : sub s (i : Int) (ln s) = s.drop i := by
    unfold sub ln
    rw [Int.toNat_natCast, Int.toNat_natCast, List.take_of_length_le (by rw [List.length_drop]; omega)]
  have hl : ln (s.drop i) = ((s.length - i : Nat) : Int) := by unfold ln; rw [List.length_drop]
  have hw : w64 (ln s - (i : Int)) = ((s.length - i : Nat) : Int) := by unfold ln; rw [w64_id (by omega) (by omega)]; omega
  have hpl : ln p = (p.length : Int) := rfl
  unfold strings_HasPrefix stringslite_HasPrefix r02_has
  rw [hsub, hl, hw, hpl, show w64 ((i : Int) + (p.length : Int)) = ((i + p.length : Nat) : Int) from w64_add (by omega)]
  by_cases h : p.length ≤ s.length - i
  · have hd : decide ((p.length : Int) ≤ ((s.length - i : Nat) : Int)) = true := decide_eq_true (by omega)
    rw [hd, chk_pos (fun _ => ⟨by omega, by omega⟩), chk_pos (fun _ => ⟨by omega, by omega, by unfold ln; omega⟩), lt_eq, lt_eq, cond_true, cond_true]
    have e1 : sub (s.drop i) 0 (p.length : Int) = (s.drop i).take p.length := by unfold sub; simp
    have e2 : sub s (i : Int) ((i + p.length : Nat) : Int) = (s.drop i).take p.length := by unfold sub; rw [Int.toNat_natCast, Int.toNat_natCast, Nat.add_sub_cancel_left]
    rw [e1, e2]
    exact ⟨_, rfl, rfl, fun _ => by omega⟩
  · have hd : decide ((p.length : Int) ≤ ((s.length - i : Nat) : Int)) = false := decide_eq_false (by omega)
    rw [hd, chk_pos (fun h => by cases h), chk_pos (fun h => by cases h), lt_eq, lt_eq, cond_false, cond_false]
    exact ⟨false, rfl, rfl, fun h => by cases h⟩
end Go.Proofs.YtfancfogkhclfaaGreatDoor

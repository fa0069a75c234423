/-
  Numbers, letters without case, and the nine marks: both readers see the same.
-/
import Derived.Test.YtfancfogkhclfaaGreatDoorPR
set_option linter.unusedVariables false
namespace Go.Proofs.YtfancfogkhclfaaGreatDoor
open Go Go.V
set_option maxRecDepth 100000
theorem word_all (m : Nat) (s : Str) (hs : s.length < 100000) (hm : 10 < m) (hm2 : s.length < m) (i : Nat) (hi : i ≤ s.length) :
    ∃ (w : Str) (j : Nat), token_scanner_word m s (i : Int) = some (w, (j : Int)) ∧ r02_Named m s (i : Int) = some (w, (j : Int)) ∧ i ≤ j ∧ j ≤ s.length ∧ w.length ≤ 4 * j :=
  word_eq m s hs hm m i [] (by omega) hi (by simp)
/-- Where a name stands, something of it is read. -/
theorem word_gt (m : Nat) (s : Str) (hs : s.length < 100000) (hm : 10 < m) (hm2 : s.length < m) (i : Nat) (hi : i < s.length) (h : tst let1 s i = true ∨ esc s i = true) {w : Str} {j : Int} (hj : token_scanner_word m s (i : Int) = some (w, j)) : (i : Int) < j := by
  obtain ⟨k, rfl⟩ : ∃ k, m = k + 1 := ⟨m - 1, by omega⟩
  have hpk := pk0 s i (by omega)
  have hesc := esc_t s i 0 (by omega)
  rw [show ((0 : Nat) : Int) = 0 from rfl, Nat.add_zero] at hesc
  unfold token_scanner_word at hj
  rw [token_scanner_word_L1, hpk, Option.bind_some, letter_t] at hj
  have hpa := pk_at hi (-1)
  have hbl := (s[i]).toNat_lt
  cases hl : tst let1 s i with
  | true =>
    rw [hl, cond_true, hpa, wu8_id (by omega) (by omega), w64_ix (by omega)] at hj
    obtain ⟨hp, hj⟩ := chkE hj
    rw [lt_eq] at hj
    obtain ⟨w', j', f1, f2, f3, f4⟩ := word_eq (k + 1) s hs hm k (i + 1) [s[i]] (by omega) hi (by simp; omega)
    have e : ([] ++ [((s[i].toNat : Nat) : Int)] : List Int) = ofB [s[i]] := rfl
    rw [e, f1] at hj
    injection hj with h1
    injection h1 with h2 h3
    omega
  | false =>
    rw [hl] at h hj
    have he : esc s i = true := by rcases h with h | h; cases h; exact h
    rw [cond_false, hesc, he, show (pk s i (-1) != (-1)) = true from by rw [hpa]; exact bne_iff_ne.2 (by omega), cond_true, Option.bind_some, cond_true, cond_true] at hj
    obtain ⟨E, j', e1, e2, e3, e4, e5, e6⟩ := escaped_eq (k + 1) s i [] hs hm hi (by simp)
    rw [show token_scanner_escaped (k + 1) s (i : Int) [] = _ from e1, Option.bind_some] at hj
    obtain ⟨w', j2, f1, f2, f3, f4⟩ := word_eq (k + 1) s hs hm k j' ([] ++ E) (by omega) e4 (by simp; omega)
    rw [show token_scanner_word_L1 (k + 1) s k (ofB ([] ++ E), (j' : Int)).1 (ofB ([] ++ E), (j' : Int)).2 = _ from f1] at hj
    injection hj with h1
    injection h1 with h2 h3
    omega
theorem let45 : token_letter ((45 : Nat) : Int) = true := by kernel_rfl
theorem nam_let {s : Str} {i : Nat} (h : nam s i = true) : tst let1 s i = true ∨ esc s i = true := by
  unfold nam at h
  cases h45 : tst (isb 45) s i with
  | true =>
    left
    obtain ⟨hi, h1⟩ := tst_some h45
    rw [tst_at hi]
    have : s[i].toNat = 45 := by simpa [isb] using h1
    unfold let1
    rw [this]
    exact let45
  | false =>
    rw [h45, cond_false] at h
    cases hf : tst fst1 s i with
    | true =>
      left
      obtain ⟨hi, h1⟩ := tst_some hf
      rw [tst_at hi]
      unfold fst1 at h1
      unfold let1 token_letter
      rw [h1]; rfl
    | false => rw [hf, cond_false] at h; exact Or.inr h
theorem name_t (s : Str) (i : Nat) (h : i < 900000) : token_scanner_name s (i : Int) 0 = some (nam s i) := by
  have := nam_t s i 0 (by omega)
  rw [Nat.add_zero] at this
  exact this
/-! ## Numbers -/
theorem numeric_eq (m : Nat) (s : Str) (hs : s.length ≤ 4000) (hm : 4020 < m) (a : Nat) (ha : a ≤ s.length) (hn : numAt s a = true) :
    ∃ (t : TToken) (e : Nat), token_scanner_numeric m s (a : Int) = some (t, (e : Int)) ∧ r02_numeric m s (a : Int) = some (t, (e : Int)) ∧ a < e ∧ e ≤ s.length := by
  obtain ⟨h1, h2, D2, x, hN⟩ := num_sub s a ha hn
  unfold token_scanner_numeric r02_numeric
  rw [endA_t m s (by omega) (by omega) a ha, endA_r m s (by omega) (by omega) a ha, Option.bind_some, Option.bind_some]
  generalize hE : (numEndA s a).1 = E at h1 h2 hN
  generalize (numEndA s a).2 = wh
  have hls : (sub s (a : Int) (E : Int)).length ≤ 4000 := by
    unfold sub; rw [List.length_take, List.length_drop]; omega
  dsimp only
  rw [chk_pos ⟨by omega, by omega, by unfold ln; omega⟩, chk_pos ⟨by omega, by omega, by unfold ln; omega⟩, thou_t m _ D2 x hN (by omega) (by omega), thou_r m _ D2 x hN (by omega) (by omega), worth_eq hN hls, Option.bind_some, Option.bind_some]
  generalize worth (sub s (a : Int) (E : Int)) _ _ = W
  rw [name_t s E (by omega), nam_r s E (by omega), Option.bind_some, Option.bind_some]
  cases nam s E with
  | true =>
    obtain ⟨w, j, f1, f2, f3, f4, _⟩ := word_all m s (by omega) (by omega) (by omega) E h2
    rw [cond_true, cond_true, f1, f2]
    exact ⟨_, j, rfl, rfl, by omega, f4⟩
  | false =>
    rw [cond_false, cond_false, pk0 s E (by omega), at_nat, Option.bind_some, Option.bind_some, show (37 : Int) = ((37 : Nat) : Int) from rfl, pk_is s E (-1) 37 (by omega), pk_is s E 0 37 (by omega)]
    cases h37 : tst (isb 37) s E with
    | true =>
      rw [cond_true, cond_true, w64_ix (by omega)]
      exact ⟨_, E + 1, rfl, rfl, by omega, tst_lt h37⟩
    | false => exact ⟨_, E, rfl, rfl, h1, h2⟩
end Go.Proofs.YtfancfogkhclfaaGreatDoor

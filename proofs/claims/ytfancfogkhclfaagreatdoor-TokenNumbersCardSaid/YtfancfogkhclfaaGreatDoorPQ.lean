/-
  Numbers that begin anywhere in a text: both readers see the same end, and the same worth.
-/
import Derived.Test.YtfancfogkhclfaaGreatDoorPM
import Derived.Test.YtfancfogkhclfaaGreatDoorPN3
set_option linter.unusedVariables false
namespace Go.Proofs.YtfancfogkhclfaaGreatDoor
open Go Go.V
set_option maxRecDepth 100000
theorem numberA_t (s : Str) (hs : s.length < 1000000) (a : Nat) (ha : a ≤ s.length) : token_scanner_number s (a : Int) = some (numAt s a) := by
  unfold token_scanner_number numAt skipS
  have h0 := peek_nat s a 0 (by omega)
  have h1 := peek_nat s a 1 (by omega)
  have h2 := peek_nat s a 2 (by omega)
  simp only [Nat.add_zero, Int.natCast_zero, Int.natCast_one, show ((2 : Nat) : Int) = 2 from rfl] at h0 h1 h2
  rw [h0]
  simp only [Option.bind_some]
  rw [sgn_p s a (-1) (by omega)]
  cases tst isg s a
  · simp only [cond_false, Option.bind_some]
    rw [h0]
    simp only [Option.bind_some]
    rw [show (46 : Int) = ((46 : Nat) : Int) from rfl, pk_is _ _ _ _ (by omega)]
    cases tst (isb 46) s a
    · simp only [cond_false, Option.bind_some]
      rw [h0]
      simp only [Option.bind_some, tdig]
    · simp only [cond_true, Option.bind_some, show w64 ((0 : Int) + 1) = 1 from by decide]
      rw [h1]
      simp only [Option.bind_some, tdig]
  · simp only [cond_true, Option.bind_some]
    rw [h1]
    simp only [Option.bind_some]
    rw [show (46 : Int) = ((46 : Nat) : Int) from rfl, pk_is _ _ _ _ (by omega)]
    cases tst (isb 46) s (a + 1)
    · simp only [cond_false, Option.bind_some]
      rw [h1]
      simp only [Option.bind_some, tdig]
    · simp only [cond_true, Option.bind_some, show w64 ((1 : Int) + 1) = 2 from by decide]
      rw [h2]
      simp only [Option.bind_some, tdig]
theorem numberA_r (s : Str) (hs : s.length < 1000000) (a : Nat) (ha : a ≤ s.length) : r02_NumberAt s (a : Int) = some (numAt s a) := by
  unfold r02_NumberAt numAt skipS
  rw [at_nat]
  simp only [Option.bind_some]
  rw [sgn_p s a 0 (by omega)]
  cases tst isg s a
  · simp only [cond_false, Option.bind_some]
    rw [at_nat]
    simp only [Option.bind_some]
    rw [show (46 : Int) = ((46 : Nat) : Int) from rfl, pk_is _ _ _ _ (by omega)]
    cases tst (isb 46) s a
    · simp only [cond_false, Option.bind_some]
      rw [at_nat]
      simp only [Option.bind_some, rdig]
    · simp only [cond_true, Option.bind_some]
      rw [w64_ix (by omega), at_nat]
      simp only [Option.bind_some, rdig]
  · simp only [cond_true, Option.bind_some]
    rw [w64_ix (by omega), at_nat]
    simp only [Option.bind_some]
    rw [show (46 : Int) = ((46 : Nat) : Int) from rfl, pk_is _ _ _ _ (by omega)]
    cases tst (isb 46) s (a + 1)
    · simp only [cond_false, Option.bind_some]
      rw [at_nat]
      simp only [Option.bind_some, rdig]
    · simp only [cond_true, Option.bind_some]
      rw [w64_ix (by omega), at_nat]
      simp only [Option.bind_some, rdig]
/-- The end of the digits before and behind the point, of what begins at 'a'. -/
def endMA (s : Str) (a : Nat) : Nat × Bool :=
  let y := skipS s a + (digS s (skipS s a)).length
  cond (cond (tst (isb 46) s y) (tst isd s (y + 1)) false) (y + 1 + (digS s (y + 1)).length, false) (y, true)
theorem endMA_le (s : Str) (a : Nat) (ha : a ≤ s.length) : (endMA s a).1 ≤ s.length := by
  unfold endMA
  have h1 := skip_le s a ha
  have h2 := dig_le s _ h1
  dsimp only
  cases ht : tst (isb 46) s (skipS s a + (digS s (skipS s a)).length) with
  | false => exact h2
  | true =>
    cases ht2 : tst isd s (skipS s a + (digS s (skipS s a)).length + 1) with
    | false => exact h2
    | true => exact dig_le s _ (tst_lt ht)
def numEndA (s : Str) (a : Nat) : Nat × Bool := endE s (endMA s a).1 (endMA s a).2
theorem endMA_eq (s : Str) (a y : Nat) (hy : y = skipS s a + (digS s (skipS s a)).length) : endMA s a = cond (cond (tst (isb 46) s y) (tst isd s (y + 1)) false) (y + 1 + (digS s (y + 1)).length, false) (y, true) := by rw [hy]; rfl
theorem endA_r (m : Nat) (s : Str) (hs : s.length < 1000000) (hm : s.length < m) (a : Nat) (ha : a ≤ s.length) : r02_NumberEnd m s (a : Int) = some (((numEndA s a).1 : Int), (numEndA s a).2) := by
  unfold r02_NumberEnd
  have h0 := at_nat s a
  rw [h0]
  simp only [Option.bind_some]
  rw [sgn_p s a 0 (by omega)]
  have e1 : (cond (tst isg s a) (some (w64 ((a : Int) + 1))) (some (a : Int)) : Option Int) = some ((skipS s a : Nat) : Int) := by
    unfold skipS
    cases tst isg s a
    · rfl
    · rw [w64_ix (by omega)]; rfl
  rw [e1]
  simp only [Option.bind_some]
  have h1 := skip_le s a ha
  have h2 := dig_le s _ h1
  unfold r02_digits
  rw [digits_ok m s hs m _ (by omega) h1]
  simp only [Option.bind_some]
  unfold numEndA
  obtain ⟨y, hy⟩ : ∃ y, y = skipS s a + (digS s (skipS s a)).length := ⟨_, rfl⟩
  have eM := endMA_eq s a y hy
  rw [← hy] at h2 ⊢
  have hM : (Option.bind (r02_At s (y : Int)) fun y17 => Option.bind (cond (y17 == 46) (r02_At s (w64 ((y : Int) + 1))) (some default)) fun y18 =>
      cond (cond (y17 == 46) (r02_Digit y18) false) (Option.bind (Option.bind (r02_digits_L1 m s m (w64 ((y : Int) + 1))) fun z3 => some z3) fun y23 => some (y23, false)) (some ((y : Int), true))) = some (((endMA s a).1 : Int), (endMA s a).2) := by
    rw [at_nat, eM]
    simp only [Option.bind_some]
    rw [show (46 : Int) = ((46 : Nat) : Int) from rfl, pk_is _ _ _ _ (by omega)]
    cases ht : tst (isb 46) s y with
    | false => rfl
    | true =>
      have hl := tst_lt ht
      simp only [cond_true]
      rw [w64_ix (by omega), at_nat]
      simp only [Option.bind_some]
      rw [rdig, digits_ok m s hs m (y + 1) (by omega) (by omega)]
      cases tst isd s (y + 1) <;> rfl
  rw [hM]
  simp only [Option.bind_some]
  have hle := endMA_le s a ha
  generalize endMA s a = q at hle
  obtain ⟨e, wh⟩ := q
  simp only at hle ⊢
  rw [at_nat]
  simp only [Option.bind_some]
  rw [ee_p s e 0 (by omega)]
  unfold endE
  cases ht : tst iee s e with
  | false => rfl
  | true =>
    have hl := tst_lt ht
    simp only [cond_true]
    rw [w64_ix (by omega), at_nat]
    simp only [Option.bind_some]
    rw [sgn_p s (e + 1) 0 (by omega), w64_ix (by omega)]
    cases hg : tst isg s (e + 1) with
    | false =>
      simp only [cond_false, Option.bind_some]
      rw [at_nat, digits_ok m s hs m (e + 1) (by omega) (by omega)]
      simp only [Option.bind_some]
      rw [rdig]
      cases tst isd s (e + 1) <;> rfl
    | true =>
      have hl2 := tst_lt hg
      simp only [cond_true, Option.bind_some]
      rw [at_nat, digits_ok m s hs m (e + 1 + 1) (by omega) (by omega)]
      simp only [Option.bind_some]
      rw [rdig]
      cases tst isd s (e + 1 + 1) <;> rfl

theorem endA_t (m : Nat) (s : Str) (hs : s.length < 1000000) (hm : s.length < m) (a : Nat) (ha : a ≤ s.length) : token_scanner_figures m s (a : Int) = some ((numEndA s a).2, ((numEndA s a).1 : Int)) := by
  unfold token_scanner_figures
  have pk0 : ∀ i : Nat, i < 2000000 → token_scanner_peek s (i : Int) 0 = some (pk s i (-1)) := fun i hi => peek_nat s i 0 (by omega)
  have pk1 : ∀ i : Nat, i < 2000000 → token_scanner_peek s (i : Int) 1 = some (pk s (i + 1) (-1)) := fun i hi => peek_nat s i 1 (by omega)
  have pk2 : ∀ i : Nat, i < 2000000 → token_scanner_peek s (i : Int) 2 = some (pk s (i + 2) (-1)) := fun i hi => peek_nat s i 2 (by omega)
  have h0 : token_scanner_peek s (a : Int) 0 = some (pk s a (-1)) := pk0 a (by omega)
  rw [h0]
  simp only [Option.bind_some]
  rw [sgn_p s a (-1) (by omega)]
  have e1 : (cond (tst isg s a) (some (w64 ((a : Int) + 1))) (some (a : Int)) : Option Int) = some ((skipS s a : Nat) : Int) := by
    unfold skipS
    cases tst isg s a
    · rfl
    · rw [w64_ix (by omega)]; rfl
  rw [e1]
  simp only [Option.bind_some]
  have h1 := skip_le s a ha
  have h2 := dig_le s _ h1
  unfold token_scanner_while_2
  rw [while_ok m s hs m _ (by omega) h1]
  simp only [Option.bind_some]
  unfold numEndA
  obtain ⟨y, hy⟩ : ∃ y, y = skipS s a + (digS s (skipS s a)).length := ⟨_, rfl⟩
  have eM := endMA_eq s a y hy
  rw [← hy] at h2 ⊢
  have hM : (Option.bind (token_scanner_peek s (y : Int) 0) fun y21 => Option.bind (cond (y21 == 46) (token_scanner_peek s (y : Int) 1) (some default)) fun y22 =>
      cond (cond (y21 == 46) (token_digit y22) false) (Option.bind (token_scanner_while_2_L1 m s m (w64 ((y : Int) + 1))) fun y31 => some (false, y31)) (some (true, (y : Int)))) = some ((endMA s a).2, ((endMA s a).1 : Int)) := by
    rw [pk0 y (by omega), eM]
    simp only [Option.bind_some]
    rw [show (46 : Int) = ((46 : Nat) : Int) from rfl, pk_is _ _ _ _ (by omega)]
    cases ht : tst (isb 46) s y with
    | false => rfl
    | true =>
      have hl := tst_lt ht
      simp only [cond_true]
      rw [w64_ix (by omega), pk1 y (by omega)]
      simp only [Option.bind_some]
      rw [tdig, while_ok m s hs m (y + 1) (by omega) (by omega)]
      cases tst isd s (y + 1) <;> rfl
  rw [hM]
  simp only [Option.bind_some]
  have hle := endMA_le s a ha
  generalize endMA s a = q at hle
  obtain ⟨e, wh⟩ := q
  simp only at hle ⊢
  rw [pk0 e (by omega), pk1 e (by omega)]
  simp only [Option.bind_some]
  have hee := ee_p s e (-1) (by omega)
  unfold endE
  have hcc : (cond (pk s e (-1) == 101) (some default) (some (pk s e (-1))) : Option Int) = some (cond (pk s e (-1) == 101) default (pk s e (-1))) := by cases (pk s e (-1) == 101) <;> rfl
  rw [hcc]
  simp only [Option.bind_some]
  have hc2 : cond (pk s e (-1) == 101) true (cond (pk s e (-1) == 101) default (pk s e (-1)) == 69) = tst iee s e := by
    rw [← hee]
    cases (pk s e (-1) == 101) <;> rfl
  rw [hc2]
  cases ht : tst iee s e with
  | false => rfl
  | true =>
    have hl := tst_lt ht
    simp only [cond_true]
    rw [sgn_p s (e + 1) (-1) (by omega)]
    cases hg : tst isg s (e + 1) with
    | false =>
      simp only [cond_false, Option.bind_some]
      rw [pk1 e (by omega), w64_ix (by omega), while_ok m s hs m (e + 1) (by omega) (by omega)]
      simp only [Option.bind_some]
      rw [tdig]
      cases tst isd s (e + 1) <;> rfl
    | true =>
      have hl2 := tst_lt hg
      simp only [cond_true, Option.bind_some]
      rw [pk2 e (by omega), show w64 ((e : Int) + 2) = ((e + 2 : Nat) : Int) from w64_add (n := 2) (by omega), while_ok m s hs m (e + 2) (by omega) (by omega)]
      simp only [Option.bind_some]
      rw [tdig]
      cases tst isd s (e + 2) <;> rfl

/-! ## The same number, seen alone -/
theorem tst_drop (p : UInt8 → Bool) (s : Str) (a k : Nat) : tst p s (a + k) = tst p (s.drop a) k := by
  unfold tst; rw [List.getElem?_drop]
theorem dig_drop (s : Str) (a k : Nat) : digS s (a + k) = digS (s.drop a) k := by
  unfold digS; rw [List.drop_drop]
theorem skip_drop (s : Str) (a : Nat) : skipS s a = a + skipS (s.drop a) 0 := by
  unfold skipS
  rw [show tst isg s a = tst isg (s.drop a) 0 from tst_drop isg s a 0]
  cases tst isg (s.drop a) 0 <;> rfl
theorem numAt_drop (s : Str) (a : Nat) : numAt s a = numAt (s.drop a) 0 := by
  unfold numAt
  dsimp only
  rw [skip_drop, tst_drop]
  cases tst (isb 46) (s.drop a) (skipS (s.drop a) 0) with
  | false => exact tst_drop _ _ _ _
  | true => exact tst_drop isd s a (skipS (s.drop a) 0 + 1)
theorem endMA_drop (s : Str) (a : Nat) : endMA s a = (a + (endM (s.drop a)).1, (endM (s.drop a)).2) := by
  obtain ⟨y, hy⟩ : ∃ y, y = skipS (s.drop a) 0 + (digS (s.drop a) (skipS (s.drop a) 0)).length := ⟨_, rfl⟩
  have hy2 : a + y = skipS s a + (digS s (skipS s a)).length := by rw [skip_drop, dig_drop, hy]; omega
  rw [endMA_eq s a (a + y) hy2, endM_eq _ y hy, tst_drop, show a + y + 1 = a + (y + 1) from rfl, tst_drop, dig_drop]
  cases cond (tst (isb 46) (s.drop a) y) (tst isd (s.drop a) (y + 1)) false
  · rfl
  · simp only [cond_true]; rw [show a + (y + 1) + (digS (s.drop a) (y + 1)).length = a + (y + 1 + (digS (s.drop a) (y + 1)).length) from by omega]
theorem endE_drop (s : Str) (a e : Nat) (wh : Bool) : endE s (a + e) wh = (a + (endE (s.drop a) e wh).1, (endE (s.drop a) e wh).2) := by
  unfold endE
  dsimp only
  rw [tst_drop, show a + e + 1 = a + (e + 1) from rfl, tst_drop, show a + e + 2 = a + (e + 2) from rfl]
  have hj : cond (tst isg (s.drop a) (e + 1)) (a + (e + 2)) (a + (e + 1)) = a + cond (tst isg (s.drop a) (e + 1)) (e + 2) (e + 1) := by cases tst isg (s.drop a) (e + 1) <;> rfl
  rw [hj]
  generalize cond (tst isg (s.drop a) (e + 1)) (e + 2) (e + 1) = j
  rw [tst_drop, dig_drop]
  cases tst iee (s.drop a) e
  · rfl
  · cases tst isd (s.drop a) j
    · rfl
    · simp only [cond_true]; rw [show a + j + (digS (s.drop a) j).length = a + (j + (digS (s.drop a) j).length) from by omega]
theorem numEndA_drop (s : Str) (a : Nat) : numEndA s a = (a + (numEnd (s.drop a)).1, (numEnd (s.drop a)).2) := by
  unfold numEndA numEnd
  rw [endMA_drop, endE_drop]
/-- A text that begins as another does. -/
structure Pre (u t : Str) : Prop where
  at_ : ∀ k, k < u.length → u[k]? = t[k]?
theorem Pre.lo {u t : Str} (h : Pre u t) (p : UInt8 → Bool) {k : Nat} (hk : k < u.length) : tst p u k = tst p t k := by
  unfold tst; rw [h.at_ k hk]
theorem tst_hi (p : UInt8 → Bool) {u : Str} {k : Nat} (hk : u.length ≤ k) : tst p u k = false := by
  unfold tst; rw [List.getElem?_eq_none hk]
theorem Pre.dig {u t : Str} (h : Pre u t) : ∀ (n k : Nat), (digS t k).length = n → k + n ≤ u.length → digS u k = digS t k := by
  intro n
  induction n with
  | zero =>
    intro k hn hk
    have h0 : digS t k = [] := List.eq_nil_of_length_eq_zero hn
    rw [h0]
    apply dig_f
    rcases Nat.lt_or_ge k u.length with hl | hl
    · rw [h.lo isd hl]
      cases ht : tst isd t k with
      | false => rfl
      | true => exact absurd h0 (dig_ne ht)
    · exact tst_hi isd hl
  | succ n ih =>
    intro k hn hk
    have ht : tst isd t k = true := by
      cases ht : tst isd t k with
      | true => rfl
      | false => rw [dig_f ht] at hn; simp at hn
    have hu : tst isd u k = true := by rw [h.lo isd (by omega)]; exact ht
    obtain ⟨hi, h1⟩ := dig_t ht
    obtain ⟨hj, h2⟩ := dig_t hu
    rw [h1] at hn
    have hn1 : (digS t (k + 1)).length = n := by simpa using hn
    rw [h1, h2, ih (k + 1) hn1 (by omega)]
    congr 1
    have := h.at_ k hj
    rw [List.getElem?_eq_getElem hj, List.getElem?_eq_getElem hi] at this
    exact Option.some.inj this
theorem ee_not46 {t : Str} {y : Nat} (h : tst iee t y = true) : tst (isb 46) t y = false := by
  cases ht : tst (isb 46) t y with
  | false => rfl
  | true =>
    obtain ⟨hi, h1⟩ := tst_some h
    obtain ⟨_, h2⟩ := tst_some ht
    have : t[y].toNat = 46 := by simpa [isb] using h2
    unfold iee isb at h1
    rw [this] at h1
    cases h1
/-- Where the digits of a number stand. -/
theorem num_shape {t : Str} (hn : numAt t 0 = true) : skipS t 0 < (endM t).1 ∧ skipS t 0 + (digS t (skipS t 0)).length ≤ (endM t).1 := by
  obtain ⟨y, hy⟩ : ∃ y, y = skipS t 0 + (digS t (skipS t 0)).length := ⟨_, rfl⟩
  rw [endM_eq t y hy, ← hy]
  cases hc : cond (tst (isb 46) t y) (tst isd t (y + 1)) false with
  | true => exact ⟨by simp only [cond_true]; omega, by simp only [cond_true]; omega⟩
  | false =>
    refine ⟨?_, Nat.le_refl _⟩
    simp only [cond_false]
    cases hd : tst isd t (skipS t 0) with
    | true =>
      have h1 := dig_ne hd
      have h2 : 0 < (digS t (skipS t 0)).length := List.length_pos_iff.2 h1
      omega
    | false =>
      rw [dig_f hd] at hy
      have hy0 : y = skipS t 0 := hy
      unfold numAt at hn
      dsimp only at hn
      rw [hy0] at hc
      cases h46 : tst (isb 46) t (skipS t 0) with
      | true => rw [h46] at hc hn; simp only [cond_true] at hc hn; rw [hn] at hc; cases hc
      | false => rw [h46] at hn; simp only [cond_false] at hn; rw [hn] at hd; cases hd
theorem endE_ge (t : Str) (e : Nat) (wh : Bool) : e ≤ (endE t e wh).1 := by
  unfold endE
  dsimp only
  cases tst iee t e
  · exact Nat.le_refl _
  · simp only [cond_true]
    cases tst isg t (e + 1) <;> simp only [cond_true, cond_false]
    · cases tst isd t (e + 1) <;> simp only [cond_true, cond_false] <;> omega
    · cases tst isd t (e + 2) <;> simp only [cond_true, cond_false] <;> omega
theorem pre_num {u t : Str} (h : Pre u t) (hn : numAt t 0 = true) (hl : u.length = (numEnd t).1) : numAt u 0 = true ∧ (numEnd u).1 = u.length := by
  obtain ⟨hs1, hs2⟩ := num_shape hn
  have hge : (endM t).1 ≤ u.length := by rw [hl]; exact endE_ge _ _ _
  have hsk : skipS u 0 = skipS t 0 := by unfold skipS; rw [h.lo isg (by omega)]
  have hdg : digS u (skipS t 0) = digS t (skipS t 0) := h.dig _ _ rfl (by omega)
  obtain ⟨y, hy⟩ : ∃ y, y = skipS t 0 + (digS t (skipS t 0)).length := ⟨_, rfl⟩
  have hy2 : y = skipS u 0 + (digS u (skipS u 0)).length := by rw [hsk, hdg, hy]
  rw [← hy] at hs2
  have hMt := endM_eq t y hy
  have hMu := endM_eq u y hy2
  have hM : endM u = endM t := by
    rw [hMu, hMt]
    cases hc : cond (tst (isb 46) t y) (tst isd t (y + 1)) false with
    | true =>
      rw [hc] at hMt
      simp only [cond_true] at hMt
      have hq : y + 1 + (digS t (y + 1)).length ≤ u.length := by rw [hMt] at hge; exact hge
      have h46 : tst (isb 46) t y = true := by cases h46 : tst (isb 46) t y with
        | true => rfl
        | false => rw [h46] at hc; cases hc
      have hd : tst isd t (y + 1) = true := by rw [h46] at hc; exact hc
      have hp : 0 < (digS t (y + 1)).length := List.length_pos_iff.2 (dig_ne hd)
      rw [h.lo _ (by omega), h.lo _ (by omega), h46, hd, h.dig _ (y + 1) rfl hq]; rfl
    | false =>
      rw [hc] at hMt
      simp only [cond_false] at hMt
      have hf : cond (tst (isb 46) u y) (tst isd u (y + 1)) false = false := by
        cases h46 : tst (isb 46) u y with
        | false => rfl
        | true =>
          have hlt := tst_lt h46
          rw [h.lo _ hlt] at h46
          rw [h46] at hc
          simp only [cond_true] at hc ⊢
          rcases Nat.lt_or_ge (y + 1) u.length with h1 | h1
          · rw [h.lo _ h1]; exact hc
          · exact tst_hi _ h1
      rw [hf]; rfl
  refine ⟨?_, ?_⟩
  · unfold numAt at hn ⊢
    dsimp only at hn ⊢
    rw [hsk, h.lo (isb 46) (k := skipS t 0) (by omega)]
    cases h46 : tst (isb 46) t (skipS t 0) with
    | false => rw [h46] at hn; simp only [cond_false] at hn ⊢; rw [h.lo _ (by omega)]; exact hn
    | true =>
      rw [h46] at hn
      simp only [cond_true] at hn ⊢
      have hd0 : tst isd t (skipS t 0) = false := by
        cases hq : tst isd t (skipS t 0) with
        | false => rfl
        | true =>
          obtain ⟨hi, h1⟩ := tst_some h46
          obtain ⟨_, h2⟩ := tst_some hq
          have : t[skipS t 0].toNat = 46 := by simpa [isb] using h1
          unfold isd at h2
          rw [this] at h2
          cases h2
      rw [dig_f hd0] at hy
      have hy0 : y = skipS t 0 := hy
      rw [← hy0] at h46 hn ⊢
      rw [h46, hn] at hMt
      simp only [cond_true] at hMt
      rw [hMt] at hge
      have hp : 0 < (digS t (y + 1)).length := List.length_pos_iff.2 (dig_ne hn)
      simp only at hge
      rw [h.lo _ (by omega)]; exact hn
  · unfold numEnd at hl ⊢
    rw [hM]
    generalize endM t = q at hl hge
    obtain ⟨e, wh⟩ := q
    simp only at hl hge ⊢
    unfold endE at hl ⊢
    dsimp only at hl ⊢
    cases he : tst iee t e with
    | false =>
      rw [he] at hl
      simp only [cond_false] at hl
      rw [tst_hi iee (by omega)]
      exact hl.symm
    | true =>
      rw [he] at hl
      simp only [cond_true] at hl
      generalize hj : cond (tst isg t (e + 1)) (e + 2) (e + 1) = j at hl
      have hj1 : e + 1 ≤ j := by rw [← hj]; cases tst isg t (e + 1) <;> simp
      cases hd : tst isd t j with
      | false =>
        rw [hd] at hl
        simp only [cond_false] at hl
        rw [tst_hi iee (by omega)]
        exact hl.symm
      | true =>
        rw [hd] at hl
        simp only [cond_true] at hl
        have hp : 0 < (digS t j).length := List.length_pos_iff.2 (dig_ne hd)
        have hj2 : cond (tst isg u (e + 1)) (e + 2) (e + 1) = j := by rw [h.lo isg (by omega)]; exact hj
        rw [h.lo iee (by omega), he, hj2, h.lo isd (by omega), hd, h.dig _ j rfl (by omega)]
        exact hl.symm
/-- What stands between the ends of a number is one. -/
theorem num_sub (s : Str) (a : Nat) (ha : a ≤ s.length) (hn : numAt s a = true) :
    a < (numEndA s a).1 ∧ (numEndA s a).1 ≤ s.length ∧ ∃ D2 e, NumD (sub s (a : Int) ((numEndA s a).1 : Int)) D2 e := by
  rw [numAt_drop] at hn
  have hle := numEnd_le (s.drop a)
  rw [List.length_drop] at hle
  obtain ⟨h1, h2⟩ := num_shape hn
  have h3 : (endM (s.drop a)).1 ≤ (numEnd (s.drop a)).1 := endE_ge _ _ _
  rw [numEndA_drop]
  refine ⟨by show a < a + _; omega, by show a + _ ≤ _; omega, ?_⟩
  have hu : sub s (a : Int) ((a + (numEnd (s.drop a)).1 : Nat) : Int) = (s.drop a).take (numEnd (s.drop a)).1 := by
    unfold sub
    rw [Int.toNat_natCast, Int.toNat_natCast, Nat.add_sub_cancel_left]
  show ∃ D2 e, NumD (sub s (a : Int) ((a + (numEnd (s.drop a)).1 : Nat) : Int)) D2 e
  rw [hu]
  have hlen : ((s.drop a).take (numEnd (s.drop a)).1).length = (numEnd (s.drop a)).1 := by
    rw [List.length_take, List.length_drop]; omega
  have hp : Pre ((s.drop a).take (numEnd (s.drop a)).1) (s.drop a) := ⟨fun k hk => by
    rw [hlen] at hk
    rw [List.getElem?_take, if_pos hk]⟩
  obtain ⟨q1, q2⟩ := pre_num hp hn hlen
  exact dec _ q1 q2
end Go.Proofs.YtfancfogkhclfaaGreatDoor

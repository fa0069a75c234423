/-
  The pieces of a token: both readers see the same, and go on from the same place.
-/
import Derived.Test.YtfancfogkhclfaaGreatDoorPQ
set_option linter.unusedVariables false
namespace Go.Proofs.YtfancfogkhclfaaGreatDoor
open Go Go.V
set_option maxRecDepth 100000
theorem pk0 (s : Str) (i : Nat) (h : i < 1000000) : token_scanner_peek s (i : Int) 0 = some (pk s i (-1)) := peek_nat s i 0 (by omega)
theorem pk1 (s : Str) (i : Nat) (h : i < 1000000) : token_scanner_peek s (i : Int) 1 = some (pk s (i + 1) (-1)) := peek_nat s i 1 (by omega)
theorem pk_end {s : Str} {i : Nat} (h : s.length ≤ i) (d : Int) : pk s i d = d := by unfold pk; rw [List.getElem?_eq_none h]
theorem tst_end (p : UInt8 → Bool) {s : Str} {i : Nat} (h : s.length ≤ i) : tst p s i = false := by unfold tst; rw [List.getElem?_eq_none h]
theorem pk_m1 {s : Str} {i : Nat} (h : i < s.length) : (pk s i (-1) == -1) = false := by
  rw [pk_at h]; exact beq_eq_false_iff_ne.2 (by omega)
theorem esc_is {s : Str} {i : Nat} (h : esc s i = true) : ∃ hi : i < s.length, s[i].toNat = 92 := by
  unfold esc at h
  cases h2 : tst (isb 92) s i with
  | false => rw [h2] at h; cases h
  | true => obtain ⟨hi, h3⟩ := tst_some h2; exact ⟨hi, by simpa [isb] using h3⟩
theorem bat_at {s : Str} {i : Nat} (h : i < s.length) : bat s (i : Int) = ((s[i].toNat : Nat) : Int) := bat_nat s i h
/-! ## Spaces -/
theorem spaces_eq (m : Nat) (s : Str) (hs : s.length < 100000) : ∀ (kk i : Nat), s.length - i < kk → i ≤ s.length →
    ∃ j : Nat, token_scanner_while_L1 m s kk (i : Int) = some (j : Int) ∧ r02_spaces_L1 m s kk (i : Int) = some (j : Int) ∧ i ≤ j ∧ j ≤ s.length ∧ tst spc1 s j = false ∧ (tst spc1 s i = true → i < j) := by
  intro kk
  induction kk with
  | zero => intro i h; omega
  | succ kk ih =>
    intro i hk hi
    rw [token_scanner_while_L1, r02_spaces_L1, pk0 s i (by omega), at_nat, Option.bind_some, Option.bind_some, space_t, space_r]
    cases ht : tst spc1 s i with
    | false => exact ⟨i, rfl, rfl, Nat.le_refl _, hi, ht, fun h => by cases h⟩
    | true =>
      have hl := tst_lt ht
      rw [cond_true, cond_true, w64_ix (by omega)]
      obtain ⟨j, h1, h2, h3, h4, h5, h6⟩ := ih (i + 1) (by omega) hl
      exact ⟨j, h1, h2, by omega, h4, h5, fun _ => by omega⟩
theorem whiles_eq (m : Nat) (s : Str) (hs : s.length < 100000) (hm : s.length < m) (i : Nat) (hi : i ≤ s.length) :
    ∃ j : Nat, token_scanner_while m s (i : Int) = some (j : Int) ∧ r02_spaces m s (i : Int) = some (j : Int) ∧ i ≤ j ∧ j ≤ s.length ∧ tst spc1 s j = false ∧ (tst spc1 s i = true → i < j) := by
  obtain ⟨j, h1, h2, h3⟩ := spaces_eq m s hs m i (by omega) hi
  refine ⟨j, h1, ?_, h3⟩
  unfold r02_spaces
  rw [h2]; rfl
/-! ## A bad address -/
def btok : TToken := TToken.mk 8 [] 0 [] false
theorem badL_eq (m : Nat) (s : Str) (hs : s.length < 100000) (hm : 10 < m) : ∀ (kk i : Nat), s.length - i < kk → i ≤ s.length →
    ∃ e z : Nat, token_scanner_bad_L1 m s kk (i : Int) = some (btok, (e : Int)) ∧ r02_bad_L1 m s kk (i : Int) = some (z : Int) ∧ z ≤ s.length ∧ e = min (z + 1) s.length ∧ i ≤ z := by
  intro kk
  induction kk with
  | zero => intro i h; omega
  | succ kk ih =>
    intro i hk hi
    have hesc := esc_t s i 0 (by omega)
    rw [show ((0 : Nat) : Int) = 0 from rfl, Nat.add_zero] at hesc
    rw [token_scanner_bad_L1, r02_bad_L1, pk0 s i (by omega), Option.bind_some, hesc, esc_r s i (by omega), Option.bind_some]
    by_cases hlt : i < s.length
    · rw [pk_m1 hlt, cond_false, lt_dec hlt, chk_pos (fun _ => ⟨by omega, by unfold ln; omega⟩), lt_eq, cond_true]
      rw [show (bat s (i : Int) != 41) = !(tst (isb 41) s i) from by rw [bat_pk s i 0 hlt]; exact pk_ne s i 0 41 (by omega)]
      cases he : esc s i with
      | true =>
        obtain ⟨_, h92⟩ := esc_is he
        have h41 : tst (isb 41) s i = false := by rw [tst_at hlt]; unfold isb; rw [h92]; rfl
        obtain ⟨E, j, e1, e2, e3, e4, e5, e6⟩ := escaped_eq m s i [] hs hm hlt (by simp)
        rw [h41, cond_true, show token_scanner_escaped m s (i : Int) [] = _ from e1, Option.bind_some, Bool.not_false, lt_eq, cond_true, Option.bind_some, cond_true, e2, Option.bind_some]
        obtain ⟨e, z, f1, f2, f3, f4, f5⟩ := ih j (by omega) e4
        exact ⟨e, z, f1, f2, f3, f4, by omega⟩
      | false =>
        have hw : w64 (w64 ((i : Int) + 1) - 1) = (i : Int) := by rw [w64_ix (by omega), w64_id (by omega) (by omega)]; omega
        rw [cond_false, hw, chk_ix hlt, lt_eq, w64_ix (by omega), show (bat s (i : Int) == 41) = tst (isb 41) s i from by rw [bat_pk s i 0 hlt]; exact pk_is s i 0 41 (by omega)]
        cases h41 : tst (isb 41) s i with
        | true => exact ⟨i + 1, i, rfl, rfl, hi, by omega, Nat.le_refl _⟩
        | false =>
          rw [cond_false, Bool.not_false, cond_true, Option.bind_some, cond_false]
          obtain ⟨e, z, f1, f2, f3, f4, f5⟩ := ih (i + 1) (by omega) hlt
          exact ⟨e, z, f1, f2, f3, f4, by omega⟩
    · have hie : i = s.length := by omega
      rw [pk_end (by omega), show ((-1 : Int) == -1) = true from rfl, cond_true, ge_dec (by omega), chk_pos (fun h => by cases h), lt_eq, cond_false, cond_false]
      exact ⟨i, i, rfl, rfl, hi, by omega, Nat.le_refl _⟩
theorem w64_min {z : Nat} {s : Str} (hz : z < 1000000) (hs : s.length < 1000000) : (if w64 ((z : Int) + 1) < ln s then w64 ((z : Int) + 1) else ln s) = ((min (z + 1) s.length : Nat) : Int) := by
  rw [w64_ix (by omega)]
  unfold ln
  by_cases h : ((z + 1 : Nat) : Int) < (s.length : Int)
  · rw [if_pos h]; omega
  · rw [if_neg h]; omega
theorem bad_eq (m : Nat) (s : Str) (hs : s.length < 100000) (hm : 10 < m) (hm2 : s.length < m) (i : Nat) (hi : i ≤ s.length) :
    ∃ e : Nat, token_scanner_bad m s (i : Int) = some (btok, (e : Int)) ∧ r02_bad m s (i : Int) = some (btok, (e : Int)) ∧ i ≤ e ∧ e ≤ s.length := by
  obtain ⟨e, z, f1, f2, f3, f4, f5⟩ := badL_eq m s hs hm m i (by omega) hi
  refine ⟨e, f1, ?_, by omega, by omega⟩
  unfold r02_bad
  rw [f2, Option.bind_some, lt_eq, w64_min (by omega) (by omega), ← f4]; rfl
/-! ## A string -/
theorem isb_at {s : Str} {i : Nat} (h : i < s.length) (c : Nat) : (bat s (i : Int) == (c : Int)) = isb c s[i] := by
  rw [bat_at h]
  unfold isb
  by_cases hc : s[i].toNat = c
  · rw [hc]; simp
  · rw [beq_eq_false_iff_ne.2 hc]; exact beq_eq_false_iff_ne.2 (by omega)
theorem quotedL_eq (m : Nat) (s : Str) (hs : s.length < 100000) (hm : 10 < m) (q : Nat) (hq : q < s.length) : ∀ (kk i : Nat) (v : Str), s.length - i < kk → i ≤ s.length → v.length ≤ 4 * i →
    ∃ (t : TToken) (e : Nat) (z : Sum (TToken × Int) ((List Int) × Int)) (z' : Sum (TToken × Int) (Int × Str)), token_scanner_quoted_L1 m s (pk s q (-1)) kk (ofB v) (i : Int) = some z ∧ r02_quoted_L1 m s (q : Int) kk (i : Int) v = some z' ∧
      sumK z (fun s_z => some ((TToken.mk 5 (toB s_z.1) 0 [] false), s_z.2)) = some (t, (e : Int)) ∧ sumK z' (fun s_z => some ((TToken.mk 5 s_z.2 0 [] false), s_z.1)) = some (t, (e : Int)) ∧ i ≤ e ∧ e ≤ s.length := by
  rw [← bat_pk s q (-1) hq]
  intro kk
  induction kk with
  | zero => intro i v h; omega
  | succ kk ih =>
    intro i v hk hi hv
    rw [token_scanner_quoted_L1, r02_quoted_L1, pk0 s i (by omega), Option.bind_some]
    by_cases hlt : i < s.length
    · have hbl := (s[i]).toNat_lt
      rw [pk_m1 hlt, cond_false, lt_dec hlt, cond_true, chk_ix hlt, ← bat_pk s i (-1) hlt]
      cases hqq : (bat s (i : Int) == bat s (q : Int)) with
      | true =>
        rw [cond_true, cond_true, w64_ix (by omega)]
        exact ⟨_, i + 1, _, _, rfl, rfl, rfl, by rw [toB_ofB]; rfl, by omega, hlt⟩
      | false =>
        rw [cond_false, cond_false]
        have h10 := isb_at hlt 10
        have h92 := isb_at hlt 92
        rw [show ((10 : Nat) : Int) = 10 from rfl] at h10
        rw [show ((92 : Nat) : Int) = 92 from rfl] at h92
        rw [h10, h92]
        cases isb 10 s[i] with
        | true => exact ⟨_, i, _, _, rfl, rfl, rfl, rfl, Nat.le_refl _, hi⟩
        | false =>
          rw [cond_false, cond_false]
          cases h9 : isb 92 s[i] with
          | true =>
            rw [cond_true, pk1 s i (by omega), Option.bind_some, cond_true]
            by_cases h2 : i + 1 < s.length
            · rw [pk_m1 h2]
              simp only [cond_false, cond_true, Option.bind_some]
              rw [w64_ix (by omega), show (((i + 1 : Nat) : Int) == ln s) = false from beq_eq_false_iff_ne.2 (by unfold ln; omega), lt_eq, lt_eq, lt_eq, cond_false, chk_pos (fun _ => ⟨by omega, by unfold ln; omega⟩), lt_eq]
              have g10 := isb_at h2 10
              rw [show ((10 : Nat) : Int) = 10 from rfl] at g10
              rw [← bat_pk s (i + 1) (-1) h2, g10]
              cases isb 10 s[i + 1] with
              | true =>
                rw [cond_true, cond_true, show w64 ((i : Int) + 2) = ((i + 2 : Nat) : Int) from w64_add (n := 2) (by omega)]
                have hmn : (if ln s < ((i + 2 : Nat) : Int) then ln s else ((i + 2 : Nat) : Int)) = ((i + 2 : Nat) : Int) := by rw [if_neg (by unfold ln; omega)]
                rw [hmn]
                obtain ⟨t, e, z, z', f1, f2, f3, f4, f5, f6⟩ := ih (i + 2) v (by omega) (by omega) (by omega)
                exact ⟨t, e, z, z', f1, f2, f3, f4, by omega, f6⟩
              | false =>
                obtain ⟨E, j, e1, e2, e3, e4, e5, e6⟩ := escaped_eq m s i v hs hm hlt (by omega)
                rw [cond_false, cond_false, e1, e2, Option.bind_some, Option.bind_some]
                dsimp only
                rw [chk_pos (by unfold ln; omega)]
                obtain ⟨t, e, z, z', f1, f2, f3, f4, f5, f6⟩ := ih j (v ++ E) (by omega) e4 (by rw [List.length_append]; omega)
                exact ⟨t, e, z, z', f1, f2, f3, f4, by omega, f6⟩
            · rw [pk_end (by omega)]
              simp only [show ((-1 : Int) == -1) = true from rfl, cond_true, Option.bind_some]
              rw [w64_ix (by omega), show (((i + 1 : Nat) : Int) == ln s) = true from beq_iff_eq.2 (by unfold ln; omega), lt_eq, lt_eq, lt_eq, cond_true, show w64 ((i : Int) + 2) = ((i + 2 : Nat) : Int) from w64_add (n := 2) (by omega)]
              have hmn : (if ln s < ((i + 2 : Nat) : Int) then ln s else ((i + 2 : Nat) : Int)) = ((i + 1 : Nat) : Int) := by rw [if_pos (by unfold ln; omega)]; unfold ln; omega
              rw [hmn]
              obtain ⟨t, e, z, z', f1, f2, f3, f4, f5, f6⟩ := ih (i + 1) v (by omega) (by omega) (by omega)
              exact ⟨t, e, z, z', f1, f2, f3, f4, by omega, f6⟩
          | false =>
            rw [cond_false, Option.bind_some, cond_false, Option.bind_some, cond_false, lt_eq, cond_false, cond_false, lt_eq, lt_eq, cond_false]
            rw [bat_at hlt, wu8_id (by omega) (by omega), w64_ix (by omega), chk_pos (by unfold ln; rw [ofB_len]; simp only [List.length_cons, List.length_nil]; omega), chk_pos (fun h => by cases h),
              chk_pos (by unfold ln; omega), sub_byte hlt, chk_pos (by unfold ln; simp only [List.length_cons, List.length_nil]; omega)]
            obtain ⟨t, e, z, z', f1, f2, f3, f4, f5, f6⟩ := ih (i + 1) (v ++ [s[i]]) (by omega) hlt (by rw [List.length_append, List.length_cons, List.length_nil]; omega)
            have e1 : ofB [s[i]] = [((s[i].toNat : Nat) : Int)] := rfl
            rw [ofB_app, e1] at f1
            exact ⟨t, e, z, z', f1, f2, f3, f4, by omega, f6⟩
    · rw [pk_end (by omega), show ((-1 : Int) == -1) = true from rfl, cond_true, ge_dec (by omega), cond_false]
      exact ⟨_, i, _, _, rfl, rfl, rfl, by rw [toB_ofB]; rfl, Nat.le_refl _, hi⟩
theorem quoted_eq (m : Nat) (s : Str) (hs : s.length < 100000) (hm : 10 < m) (hm2 : s.length < m) (i : Nat) (hi : i < s.length) :
    ∃ (t : TToken) (e : Nat), token_scanner_quoted m s (i : Int) = some (t, (e : Int)) ∧ r02_quoted m s (i : Int) = some (t, (e : Int)) ∧ i < e ∧ e ≤ s.length := by
  obtain ⟨t, e, z, z', f1, f2, f3, f4, f5, f6⟩ := quotedL_eq m s hs hm i hi m (i + 1) [] (by omega) hi (by simp)
  refine ⟨t, e, ?_, ?_, by omega, f6⟩
  · unfold token_scanner_quoted
    rw [pk0 s i (by omega), Option.bind_some, w64_ix (by omega), show token_scanner_quoted_L1 m s (pk s i (-1)) m [] ((i + 1 : Nat) : Int) = _ from f1, Option.bind_some]
    exact f3
  · unfold r02_quoted
    rw [chk_ix hi, w64_ix (by omega), f2, Option.bind_some]
    exact f4
end Go.Proofs.YtfancfogkhclfaaGreatDoor

/-
  One token: both readers see the same, and go on from the same place.
-/
import Derived.Test.YtfancfogkhclfaaGreatDoorPU
set_option linter.unusedVariables false
namespace Go.Proofs.YtfancfogkhclfaaGreatDoor
open Go Go.V
set_option maxRecDepth 100000
theorem hash_t {α : Type} (b l e : Bool) (p : Int) (A B : Option α) (hp : token_letter p = l) :
    (Option.bind (cond b (some p) (some default)) fun y28 => Option.bind (cond b (cond (token_letter y28) (some default) (some e)) (some default)) fun y29 => lt (cond b (cond (token_letter y28) true y29) false) fun x30 => cond x30 A B) = cond (cond b (cond l true e) false) A B := by
  subst hp
  cases b with
  | false => rfl
  | true =>
    rw [cond_true, Option.bind_some, cond_true, cond_true]
    cases token_letter p <;> rfl
theorem hash_r {α : Type} (b l e : Bool) (A B : Option α) :
    (Option.bind (cond b (cond l (some default) (some e)) (some default)) fun y29 => lt (cond b (cond l true y29) false) fun x30 => cond x30 A B) = cond (cond b (cond l true e) false) A B := by
  cases b <;> cases l <;> rfl
theorem at_b {α : Type} (b n : Bool) (A B : Option α) : (Option.bind (cond b (some n) (some default)) fun y => cond (cond b y false) A B) = cond (cond b n false) A B := by
  cases b <;> rfl
/-- The last branches: marks of several bytes, names, one byte. -/
theorem next_eq (m : Nat) (s : Str) (hs : s.length ≤ 4000) (hm : 20100 < m) (i : Nat) (hi : i < s.length) :
    ∃ (t : TToken) (e : Nat), token_scanner_next m s (i : Int) = some (t, (e : Int)) ∧ r02_One m s (i : Int) = some (t, (e : Int)) ∧ i < e ∧ e ≤ s.length := by
  have hbl := (s[i]).toNat_lt
  have hpa := pk_at hi (-1)
  unfold token_scanner_next r02_One
  rw [pk0 s i (by omega), Option.bind_some, chk_pos ⟨by omega, by unfold ln; omega⟩, chk_ix hi, space_t, show r02_Space (bat s (i : Int)) = tst spc1 s i from by rw [bat_pk s i 0 hi, space_r]]
  cases hst : tst spc1 s i with
  | true =>
    obtain ⟨j, w1, w2, w3, w4, w5, w6⟩ := whiles_eq m s (by omega) (by omega) i (by omega)
    have w7 := w6 hst
    rw [cond_true, cond_true, w1, w2]
    exact ⟨_, j, rfl, rfl, w7, w4⟩
  | false =>
    rw [cond_false, cond_false, hpa, bat_at hi, lt_eq (cond (((s[i].toNat : Nat) : Int) == 34) true (((s[i].toNat : Nat) : Int) == 39))]
    cases hq : cond (((s[i].toNat : Nat) : Int) == 34) true (((s[i].toNat : Nat) : Int) == 39) with
    | true =>
      obtain ⟨t, e, f1, f2, f3, f4⟩ := quoted_eq m s (by omega) (by omega) (by omega) i hi
      rw [cond_true, cond_true, f1, f2]
      exact ⟨t, e, rfl, rfl, f3, f4⟩
    | false =>
      have hlet : (cond (decide (w64 ((i : Int) + 1) < ln s)) (r02_Letter (bat s (w64 ((i : Int) + 1)))) false) = tst let1 s (i + 1) := by
        rw [w64_ix (by omega)]
        by_cases h : i + 1 < s.length
        · rw [lt_dec h, cond_true, bat_pk s (i + 1) 0 h, letter_r]
        · rw [ge_dec (by omega), cond_false, tst_end _ (by omega)]
      have hesc1 : token_scanner_escape s (i : Int) 1 = some (esc s (i + 1)) := esc_t s i 1 (by omega)
      have hnam1 : token_scanner_name s (i : Int) 1 = some (nam s (i + 1)) := nam_t s i 1 (by omega)
      rw [cond_false, cond_false, hlet, pk1 s i (by omega), hesc1, chk_pos (fun h _ => ⟨by rw [w64_ix (by omega)]; omega, of_decide_eq_true h⟩), w64_ix (by omega), esc_r s (i + 1) (by omega), hash_r, hash_t _ _ _ _ _ _ (letter_t s (i + 1))]
      cases cond (((s[i].toNat : Nat) : Int) == 35) (cond (tst let1 s (i + 1)) true (esc s (i + 1))) false with
      | true =>
        obtain ⟨w, j, f1, f2, f3, f4, _⟩ := word_all m s (by omega) (by omega) (by omega) (i + 1) hi
        rw [cond_true, cond_true, hnam1, Option.bind_some, f1, f2, Option.bind_some, Option.bind_some, nam_r s (i + 1) (by omega), Option.bind_some]
        exact ⟨_, j, rfl, rfl, by omega, f4⟩
      | false =>
        rw [cond_false, cond_false, numberA_t s (by omega) i (by omega), numberA_r s (by omega) i (by omega), Option.bind_some, Option.bind_some]
        cases hn : numAt s i with
        | true =>
          obtain ⟨t, e, f1, f2, f3, f4⟩ := numeric_eq m s hs (by omega) i (by omega) hn
          rw [cond_true, cond_true, f1, f2]
          exact ⟨t, e, rfl, rfl, f3, f4⟩
        | false =>
          obtain ⟨b1, g1, g2, g3⟩ := has_eq s i [45, 45, 62] (by omega) (by omega) (by simp)
          rw [cond_false, cond_false, g1, g2, Option.bind_some, Option.bind_some]
          cases b1 with
          | true =>
            have g4 : i + 3 ≤ s.length := g3 rfl
            rw [cond_true, cond_true, show w64 ((i : Int) + 3) = ((i + 3 : Nat) : Int) from w64_add (n := 3) (by omega)]
            exact ⟨_, i + 3, rfl, rfl, by omega, g4⟩
          | false =>
            obtain ⟨b2, k1, k2, k3⟩ := has_eq s i [60, 33, 45, 45] (by omega) (by omega) (by simp)
            rw [cond_false, cond_false, k1, k2, Option.bind_some, Option.bind_some]
            cases b2 with
            | true =>
              have g4 : i + 4 ≤ s.length := k3 rfl
              rw [cond_true, cond_true, show w64 ((i : Int) + 4) = ((i + 4 : Nat) : Int) from w64_add (n := 4) (by omega)]
              exact ⟨_, i + 4, rfl, rfl, by omega, g4⟩
            | false =>
              rw [cond_false, cond_false, hnam1, nam_r s (i + 1) (by omega), at_b, at_b]
              cases cond (((s[i].toNat : Nat) : Int) == 64) (nam s (i + 1)) false with
              | true =>
                obtain ⟨w, j, f1, f2, f3, f4, _⟩ := word_all m s (by omega) (by omega) (by omega) (i + 1) hi
                rw [cond_true, cond_true, f1, f2]
                exact ⟨_, j, rfl, rfl, by omega, f4⟩
              | false =>
                rw [cond_false, cond_false, name_t s i (by omega), nam_r s i (by omega), Option.bind_some, Option.bind_some]
                cases hnm : nam s i with
                | true =>
                  obtain ⟨t, e, f1, f2, f3, f4⟩ := ident_eq m s hs hm i hi hnm
                  rw [cond_true, cond_true, f1, f2]
                  exact ⟨t, e, rfl, rfl, f3, f4⟩
                | false =>
                  have hsb : sub (sub s (i : Int) (ln s)) 0 1 = [s[i]] := by
                    unfold sub ln
                    rw [Int.toNat_natCast, Int.toNat_natCast, List.drop_eq_getElem_cons hi]
                    obtain ⟨k, hk⟩ : ∃ k, s.length - i = k + 1 := ⟨s.length - i - 1, by omega⟩
                    rw [hk]; rfl
                  have hsl : ln (sub s (i : Int) (ln s)) = ((s.length - i : Nat) : Int) := by
                    unfold sub ln
                    rw [Int.toNat_natCast, Int.toNat_natCast, List.length_take, List.length_drop]; omega
                  rw [cond_false, cond_false, lt_eq, chk_pos ⟨by omega, by rw [hsl]; omega⟩, chk_pos ⟨by omega, by omega, by unfold ln; omega⟩, hsb, sub_byte hi]
                  rcases mark_at hbl with ⟨m1, m2, m3⟩ | ⟨m1, m2⟩
                  · rw [m1, m2, cond_true, cond_true, m3]
                    exact ⟨_, i + 1, rfl, rfl, by omega, hi⟩
                  · rw [m1, m2, cond_false, cond_false]
                    exact ⟨_, i + 1, rfl, rfl, by omega, hi⟩
end Go.Proofs.YtfancfogkhclfaaGreatDoor

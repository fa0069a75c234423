/-
  Numbers written, second part: the whole part's digits.
-/
import Derived.Test.YtbealjlgbfpadaaDoorPN3
namespace Go.Proofs.YtbealjlgbfpadaaDoor
open Go Go.V
set_option maxRecDepth 100000
theorem setDrop (l : List Int) (i : Nat) (c : Int) (h : i < l.length) : (l.set i c).drop i = c :: l.drop (i + 1) := by
  rw [List.drop_eq_getElem_cons (by simpa using h), List.drop_set_of_lt (by omega)]
  simp
theorem write1 (c : Int) (i : Nat) (l : List Int) (h : i + 1 ≤ 20) : fixed_Write_1 c ((i + 1 : Nat) : Int) l = some ((i : Int), l.set i c) := by
  unfold fixed_Write_1
  have e : w64 (((i + 1 : Nat) : Int) - 1) = (i : Int) := by rw [w64_id (by omega) (by omega)]; omega
  simp only [lt_eq]
  rw [e, chk_pos (by omega), seti_nat]
def dgt (q : Nat) : Int := wu8 (w64 (48 + (Int.tmod (q : Int) 10)))
def decS : Nat → Nat → Str
  | 0, _ => []
  | k + 1, q => (if q < 10 then [] else decS k (q / 10)) ++ toB [dgt q]
theorem toB_cons (c : Int) (l : List Int) : toB (c :: l) = toB [c] ++ toB l := rfl
theorem tdiv10 (q : Nat) (h : q < 4611686018427387904) : w64 (Int.tdiv (q : Int) 10) = ((q / 10 : Nat) : Int) := by
  rw [tdiv_pos (by omega), w64_id (by omega) (by omega)]
  omega
theorem decS_len : ∀ (k q : Nat), (decS k q).length ≤ k
  | 0, _ => Nat.le_refl _
  | k + 1, q => by
    have := decS_len k (q / 10)
    rw [decS, List.length_append]
    have h1 : (toB [dgt q]).length = 1 := rfl
    rw [h1]
    split
    · simp
    · omega
theorem toB1 (c : Int) : (toB [c]).length = 1 := rfl
theorem digits_succ (m k : Nat) (n : Int) : r06_digits_r m (k + 1) n = cond (decide (n < 10)) (some (toB [wu8 (w64 (48 + (Int.tmod n 10)))])) (Option.bind (r06_digits_r m k (w64 (Int.tdiv n 10))) fun y => chk (ln y + ln (toB [wu8 (w64 (48 + (Int.tmod n 10)))]) ≤ 9223372036854775807) (some (y ++ toB [wu8 (w64 (48 + (Int.tmod n 10)))]))) := by
  rw [r06_digits_r]
  simp only [lt_eq]
theorem dig_r (m d : Nat) (k : Nat) : ∀ (q : Nat), 0 < k → q < 10 ^ k → q < 4611686018427387904 → k ≤ 30 → r06_digits_r m (k + d) (q : Int) = some (decS k q) := by
  induction k with
  | zero => intro q h; omega
  | succ k ih =>
    intro q _ hq hb hk
    rw [Nat.add_right_comm, digits_succ, decS]
    have hz : toB [wu8 (w64 (48 + (Int.tmod (q : Int) 10)))] = toB [dgt q] := rfl
    rw [hz]
    generalize hy : toB [dgt q] = z
    have hzl : z.length = 1 := by rw [← hy]; exact toB1 _
    by_cases h : q < 10
    · rw [decide_eq_true (show (q : Int) < 10 from by omega), if_pos h, List.nil_append, cond_true]
    · rw [decide_eq_false (show ¬ (q : Int) < 10 from by omega), if_neg h, cond_false]
      have hk0 : 0 < k := by
        rcases Nat.eq_zero_or_pos k with h0 | h0
        · subst h0; omega
        · exact h0
      rw [Nat.pow_succ] at hq
      rw [tdiv10 q hb, ih (q / 10) hk0 (Nat.div_lt_of_lt_mul (by rw [Nat.mul_comm]; exact hq)) (Nat.lt_of_le_of_lt (Nat.div_le_self q 10) hb) (by omega)]
      have := decS_len k (q / 10)
      rw [Option.bind_some, chk_pos (by unfold ln; omega)]
theorem write_succ (m k : Nat) (n i : Int) (l : List Int) : fixed_Write_L2 m (k + 1) n i l = Option.bind (fixed_Write_1 (wu8 (w64 (48 + (Int.tmod n 10)))) i l) fun y => cond (decide (n < 10)) (some (y.1, y.2)) (fixed_Write_L2 m k (w64 (Int.tdiv n 10)) y.1 y.2) := by
  rw [fixed_Write_L2]
theorem whole_t (m d : Nat) : ∀ (k q i : Nat) (l : List Int), 0 < k → q < 10 ^ k → q < 4611686018427387904 → k ≤ i → i ≤ 20 → l.length = 20 →
    ∃ (i' : Nat) (l' : List Int), fixed_Write_L2 m (k + d) (q : Int) (i : Int) l = some ((i' : Int), l') ∧ i' + (decS k q).length = i ∧ l'.length = 20 ∧ toB (l'.drop i') = decS k q ++ toB (l.drop i)
  | 0, _, _, _, h, _, _, _, _, _ => absurd h (by omega)
  | k + 1, q, i, l, _, hq, hb, hki, hi, hl => by
    obtain ⟨j, rfl⟩ : ∃ j, i = j + 1 := ⟨i - 1, by omega⟩
    have hz : wu8 (w64 (48 + (Int.tmod (q : Int) 10))) = dgt q := rfl
    rw [Nat.add_right_comm, write_succ, write1 _ j l hi, decS, Option.bind_some, hz]
    have hd : (l.set j (dgt q)).drop j = dgt q :: l.drop (j + 1) := setDrop l j _ (by omega)
    have hsl : (l.set j (dgt q)).length = 20 := by rw [List.length_set]; exact hl
    generalize l.set j (dgt q) = l1 at hd hsl
    by_cases h : q < 10
    · rw [decide_eq_true (show (q : Int) < 10 from by omega), if_pos h, cond_true]
      refine ⟨j, l1, rfl, ?_, hsl, ?_⟩
      · rw [List.nil_append, toB1]
      · rw [hd, toB_cons, List.nil_append]
    · rw [decide_eq_false (show ¬ (q : Int) < 10 from by omega), if_neg h, cond_false]
      have hk0 : 0 < k := by
        rcases Nat.eq_zero_or_pos k with h0 | h0
        · subst h0; omega
        · exact h0
      rw [Nat.pow_succ] at hq
      rw [tdiv10 q hb]
      obtain ⟨i', l', e1, e2, e3, e4⟩ := whole_t m d k (q / 10) j l1 hk0 (Nat.div_lt_of_lt_mul (by rw [Nat.mul_comm]; exact hq)) (Nat.lt_of_le_of_lt (Nat.div_le_self q 10) hb) (by omega) (by omega) hsl
      refine ⟨i', l', e1, ?_, e3, ?_⟩
      · rw [List.length_append, toB1]
        omega
      · rw [e4, hd, toB_cons, List.append_assoc]
end Go.Proofs.YtbealjlgbfpadaaDoor

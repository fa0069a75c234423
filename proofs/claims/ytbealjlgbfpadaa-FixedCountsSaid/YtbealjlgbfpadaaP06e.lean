/-
  FixedCounts, in plain words: the sums, the products and the holding are the reference's.
-/
import Derived.Test.YtbealjlgbfpadaaP06c
namespace Go.Proofs.Ytbealjlgbfpadaa
open Go.V Go.RowKit

theorem hold_same (x : Int) : r06_Hold x = fixed_hold x := by
  rw [hold_eq]
  simp only [r06_Hold, lt_eq]
  split <;> split <;> (try split) <;> (try split) <;> omega

theorem rcheck_L1 (l : List Int) (hl : l.length < 2305843009213693952) : ∀ (m i : Nat), i ≤ l.length → l.length - i < m →
    r06_Sum_L1 l m (i : Int) = some (if ∀ x ∈ l.drop i, inN x then .inr () else .inl (0, 8)) := by
  intro m
  induction m with
  | zero => intro i _ h; omega
  | succ m ih =>
    intro i hi hm
    rw [r06_Sum_L1]
    by_cases hlt : i < l.length
    · rw [lt_dec hlt, cond_true, chk_ix hlt, gi_nat l i hlt]
      have hd : l.drop i = l[i] :: l.drop (i + 1) := List.drop_eq_getElem_cons hlt
      by_cases hin : inN l[i]
      · rw [is_true hin, Bool.not_true, cond_false, w64_ix (by omega), ih (i + 1) (by omega) (by omega)]
        have he : (∀ x ∈ l.drop i, inN x) ↔ ∀ x ∈ l.drop (i + 1), inN x := by
          rw [hd, List.forall_mem_cons]; exact ⟨And.right, And.intro hin⟩
        simp only [he]
      · rw [is_false hin, Bool.not_false, cond_true, if_neg]
        intro h
        exact hin (h _ (hd ▸ List.mem_cons_self))
    · have e : l.drop i = [] := List.drop_eq_nil_of_le (by omega)
      rw [ge_dec (by omega), cond_false, e]
      simp

theorem sum_same (l : List Int) : ∀ (m : Nat) (v i : Int), r06_Sum_L2 l m v i = fixed_Sum_L1 l m v i := by
  intro m
  induction m with
  | zero => intro v i; rfl
  | succ m ih => intro v i; rw [r06_Sum_L2, fixed_Sum_L1, hold_same, ih]
theorem sum_some (l : List Int) (hl : l.length < 2305843009213693952) : ∀ (m i : Nat) (v : Int), i ≤ l.length → l.length - i < m → ∃ r, fixed_Sum_L1 l m v (i : Int) = some r := by
  intro m
  induction m with
  | zero => intro i _ _ h; omega
  | succ m ih =>
    intro i v hi hm
    rw [fixed_Sum_L1]
    by_cases hlt : i < l.length
    · rw [lt_dec hlt, cond_true, chk_ix hlt, w64_ix (by omega)]
      exact ih (i + 1) _ (by omega) (by omega)
    · rw [ge_dec (by omega), cond_false]
      exact ⟨v, rfl⟩
theorem sums {l : List Int} (hl : l.length < 2305843009213693952) : ∃ n e, fixed_Sum l = some (n, e) ∧ r06_Sum l = some (n, e) := by
  obtain ⟨r, hr⟩ := sum_some l hl (l.length + 1) 0 0 (by omega) (by omega)
  have hL : r06_Sum_L1 l (l.length + 1) 0 = some (if ∀ x ∈ l, inN x then .inr () else .inl (0, 8)) := by
    have := rcheck_L1 l hl (l.length + 1) 0 (by omega) (by omega)
    rw [List.drop_zero] at this
    exact this
  unfold fixed_Sum r06_Sum
  rw [fuel_ix, hL]
  by_cases h : ∀ x ∈ l, inN x
  · rw [check_ok hl h, if_pos h]
    refine ⟨r, 0, ?_, ?_⟩
    · simp only [Option.bind_some]
      rw [show ((0 : Int) != 0) = false from rfl, cond_false]
      have : fixed_Sum_L1 l (l.length + 1) 0 0 = some r := hr
      rw [this]; rfl
    · simp only [Option.bind_some, sumK]
      rw [sum_same]
      have : fixed_Sum_L1 l (l.length + 1) 0 0 = some r := hr
      rw [this]; rfl
  · rw [check_bad hl h, if_neg h]
    exact ⟨0, 8, rfl, rfl⟩

theorem product_ok (a b : Nat) (ha : a ≤ 1000000000000) (hb : b ≤ 1000000000000) : r06_product (a : Int) (b : Int) = some ((min 1000000000000 (a * b / 1000) : Nat) : Int) := by
  unfold r06_product
  have e1 : w64 (Int.tdiv (a : Int) 1000) = ((a / 1000 : Nat) : Int) := by rw [tdiv_pos (by omega), w64_id (by omega) (by omega)]; rfl
  rw [e1]
  have hq : a = 1000 * (a / 1000) + a % 1000 := (Nat.div_add_mod a 1000).symm
  generalize hqe : a / 1000 = q at *
  generalize hre : a % 1000 = r at *
  have hr : r < 1000 := by rw [← hre]; exact Nat.mod_lt _ (by decide)
  have hq9 : q ≤ 1000000000 := by omega
  have hab : a * b / 1000 = q * b + r * b / 1000 := by
    rw [hq, Nat.add_mul, Nat.mul_assoc, Nat.mul_add_div (by decide)]
  have hrb : r * b ≤ 1000 * 1000000000000 := Nat.mul_le_mul (by omega) hb
  rw [chk_pos (by intro h; have := of_decide_eq_true h; omega)]
  by_cases h0 : 0 < q
  · rw [decide_eq_true (show (0 : Int) < (q : Int) by omega), cond_true]
    have h1 : (1000000000000 / q : Nat) ≤ 1000000000000 := Nat.div_le_self _ _
    obtain ⟨d, hd⟩ : ∃ d, d = 1000000000000 / q := ⟨_, rfl⟩
    have e2 : w64 (Int.tdiv 1000000000000 (q : Int)) = (d : Int) := by
      rw [show Int.tdiv 1000000000000 (q : Int) = ((1000000000000 / q : Nat) : Int) from rfl, ← hd, w64_id (by omega) (by omega)]
    rw [e2]
    by_cases hgt : 1000000000000 / q < b
    · rw [decide_eq_true (show (d : Int) < (b : Int) by omega), lt_eq, cond_true, Nat.min_eq_left]
      · rfl
      · have : 1000000000000 < b * q := (Nat.div_lt_iff_lt_mul h0).1 hgt
        rw [hab, Nat.mul_comm q b]
        omega
    · have hle : b * q ≤ 1000000000000 := (Nat.le_div_iff_mul_le h0).1 (by omega)
      rw [decide_eq_false (show ¬ (d : Int) < (b : Int) by omega), lt_eq, cond_false]
      rw [hab]
      have e3 : Int.tmod (a : Int) 1000 = (r : Int) := by rw [tmod_pos (by omega)]; omega
      rw [e3, ← Int.natCast_mul, ← Int.natCast_mul]
      rw [Nat.mul_comm b q] at hle
      generalize r * b = p at *
      generalize q * b = t at *
      have e4 : w64 (Int.tdiv (w64 (p : Int)) 1000) = ((p / 1000 : Nat) : Int) := by rw [w64_id (x := (p : Int)) (by omega) (by omega), tdiv_pos (by omega), w64_id (by omega) (by omega)]; rfl
      rw [e4, lt_eq, lt_eq, w64_id (x := (t : Int)) (by omega) (by omega), w64_id (by omega) (by omega), hold_same, hold_eq]
      congr 1
      split
      · omega
      · split <;> omega
  · have hq0 : q = 0 := by omega
    subst hq0
    rw [decide_eq_false (show ¬ (0 : Int) < ((0 : Nat) : Int) by omega), cond_false, lt_eq, cond_false]
    rw [hab]
    have e3 : Int.tmod (a : Int) 1000 = (r : Int) := by rw [tmod_pos (by omega)]; omega
    rw [e3, ← Int.natCast_mul, ← Int.natCast_mul, Nat.zero_mul]
    generalize r * b = p at *
    have e4 : w64 (Int.tdiv (w64 (p : Int)) 1000) = ((p / 1000 : Nat) : Int) := by rw [w64_id (x := (p : Int)) (by omega) (by omega), tdiv_pos (by omega), w64_id (by omega) (by omega)]; rfl
    rw [e4, lt_eq, lt_eq, w64_id (x := ((0 : Nat) : Int)) (by omega) (by omega), w64_id (by omega) (by omega), hold_same, hold_eq]
    congr 1
    split
    · omega
    · split <;> omega

theorem times_ok {a b : Int} (ha : inN a) (hb : inN b) : r06_Times a b = some (M a b) := by
  unfold inN at ha hb
  have hP : mulP a b ≤ 1000000000000 := mulP_le a b
  have key : ∀ (m : Nat) (x : Int) (h0 : 0 ≤ x) (h1 : x ≤ 1000000000000) (h2 : x.natAbs = a.natAbs), r06_Times_r (m + 1) x b = some (if b < 0 then - (mulP a b : Int) else (mulP a b : Int)) := by
    intro m x h0 h1 h2
    rw [r06_Times_r, decide_eq_false (show ¬ x < 0 by omega), cond_false]
    have ex : x = ((a.natAbs : Nat) : Int) := by omega
    by_cases hb0 : b < 0
    · rw [decide_eq_true hb0, cond_true, if_pos hb0, ex, w64_id (by omega) (by omega), show 0 - b = ((b.natAbs : Nat) : Int) by omega, product_ok _ _ (by omega) (by omega), Option.bind_some]
      show some (w64 (0 - (mulP a b : Int))) = _
      rw [w64_id (by omega) (by omega)]
      congr 1
      omega
    · rw [decide_eq_false hb0, cond_false, if_neg hb0, ex, show b = ((b.natAbs : Nat) : Int) by omega, product_ok _ _ (by omega) (by omega), Option.bind_some]
      rfl
  unfold r06_Times M
  by_cases ha0 : a < 0
  · rw [r06_Times_r, decide_eq_true ha0, cond_true, w64_id (by omega) (by omega), key 0 (0 - a) (by omega) (by omega) (by omega), Option.bind_some]
    by_cases hb0 : b < 0
    · rw [if_pos hb0, if_pos (by simp [hb0]), w64_id (by omega) (by omega)]; congr 1; omega
    · rw [if_neg hb0, if_neg (by simp [hb0]), w64_id (by omega) (by omega)]; congr 1; omega
  · rw [key 1 a (by omega) (by omega) rfl]
    by_cases hb0 : b < 0
    · rw [if_pos hb0, if_neg (by simp [hb0, ha0])]
    · rw [if_neg hb0, if_pos (by simp [hb0, ha0])]

theorem muls (a b : Int) : ∃ n e, fixed_Mul a b = some (n, e) ∧ r06_Mul a b = some (n, e) := by
  by_cases h : inN a ∧ inN b
  · obtain ⟨ha, hb⟩ := h
    refine ⟨_, _, Mul_ok ha hb, ?_⟩
    unfold r06_Mul
    rw [is_true ha, is_true hb]
    simp only [Bool.not_true, cond_false]
    rw [times_ok ha hb]
    rfl
  · refine ⟨0, 8, ?_, ?_⟩
    · unfold fixed_Mul
      rw [check_bad (by simp) (by simpa using h)]
      rfl
    · unfold r06_Mul
      have e : (cond (!(r06_Is a)) true (!(r06_Is b))) = true := by
        by_cases h1 : inN a
        · have h2 : ¬ inN b := fun h2 => h ⟨h1, h2⟩
          rw [is_true h1, is_false h2]; rfl
        · rw [is_false h1]; rfl
      rw [e, cond_true]

theorem withins (n a b : Int) : fixed_Within n a b = some (r06_Within n a b) := by
  by_cases h : inN n ∧ inN a ∧ inN b
  · obtain ⟨hn, ha, hb⟩ := h
    unfold r06_Within
    rw [is_true hn, is_true ha, is_true hb]
    simp only [Bool.not_true, cond_false, lt_eq]
    by_cases hab : b < a
    · unfold fixed_Within
      rw [check3 hn ha hb, Option.bind_some, show ((0 : Int) != 0) = false from rfl, cond_false, decide_eq_true hab]
      rfl
    · rw [within_ok hn ha hb (by omega), decide_eq_false hab, cond_false]
      congr 2
      split <;> split <;> (try split) <;> (try split) <;> omega
  · have e : (cond (cond (!(r06_Is n)) true (!(r06_Is a))) true (!(r06_Is b))) = true := by
      by_cases h1 : inN n
      · by_cases h2 : inN a
        · have h3 : ¬ inN b := fun h3 => h ⟨h1, h2, h3⟩
          rw [is_true h1, is_true h2, is_false h3]; rfl
        · rw [is_true h1, is_false h2]; rfl
      · rw [is_false h1]; rfl
    unfold fixed_Within r06_Within
    rw [check_bad (by simp) (by simpa using h), Option.bind_some, show ((8 : Int) != 0) = true from rfl, cond_true]
    simp only [lt_eq]
    rw [e]
    rfl

theorem same_L1 (l : List Int) (hl : l.length < 2305843009213693952) : ∀ (m i : Nat), i ≤ l.length → l.length - i < m → law06_FixedCounts_L1 l l m (i : Int) = some (.inr ()) := by
  intro m
  induction m with
  | zero => intro i _ h; omega
  | succ m ih =>
    intro i hi hm
    rw [law06_FixedCounts_L1]
    by_cases hlt : i < l.length
    · rw [lt_dec hlt, cond_true, chk_ix hlt, chk_ix hlt, bne_self_eq_false, cond_false, w64_ix (by omega)]
      exact ih (i + 1) (by omega) (by omega)
    · rw [ge_dec (by omega), cond_false]

theorem fixedCounts (a b c : Int) (l : List Int) : law06_FixedCounts a b c l = some true := by
  unfold law06_FixedCounts
  by_cases h : l.length ≤ 50
  · rw [decide_eq_false (show ¬ 50 < ln l by unfold ln; omega), cond_false, chk_pos (by unfold ln; simp; omega), lt_eq, List.nil_append]
    obtain ⟨n1, e1, h1, h2⟩ := sums (l := l) (by omega)
    obtain ⟨n2, e2, h3, h4⟩ := muls a b
    rw [h1, Option.bind_some, h2, Option.bind_some, h3, Option.bind_some, h4, Option.bind_some, withins, Option.bind_some, lt_eq, fuel_ix, show law06_FixedCounts_L1 l l (l.length + 1) 0 = some (.inr ()) from same_L1 l (by omega) _ 0 (by omega) (by omega)]
    simp [sumK, lt]
  · rw [decide_eq_true (show 50 < ln l by unfold ln; omega), cond_true]
theorem fixedCounts_walk {a_l : Option Addr} {c_l : Nat} (a b c : Int) (l : List Int) (w : World) (hs : Sl (encI .i64) 1 w a_l l) : Calls Try.prog 3 ⟨[.int .i64 a, .int .i64 b, .int .i64 c, .slice a_l l.length c_l]⟩ w (V.Pure (.bool true) w) := law06_FixedCounts_w a b c l true (fixedCounts a b c l) w hs
end Go.Proofs.Ytbealjlgbfpadaa

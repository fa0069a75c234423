/-
  What the functions of package fixed compute, in plain words: the product of two numbers.
-/
import Derived.Test.YtbealjlgbfpadaaP06b
namespace Go.Proofs.Ytbealjlgbfpadaa
open Go.V Go.RowKit

/-- The product in thousandths, without its sign. -/
def mulP (a b : Int) : Nat := min 1000000000000 (a.natAbs * b.natAbs / 1000)
/-- The product in thousandths. -/
def M (a b : Int) : Int := if decide (a < 0) = decide (b < 0) then (mulP a b : Int) else - (mulP a b : Int)

theorem abs_eq {a : Int} (h : inN a) : (if a < w64 (0 - a) then w64 (0 - a) else a) = (a.natAbs : Int) := by
  unfold inN at h
  rw [w64_id (by omega) (by omega)]
  split <;> omega

theorem Mul_ok {a b : Int} (ha : inN a) (hb : inN b) : fixed_Mul a b = some (M a b, 0) := by
  unfold fixed_Mul
  rw [check2 ha hb, Option.bind_some, show ((0 : Int) != 0) = false from rfl, cond_false, lt_val (abs_eq ha), lt_val (abs_eq hb)]
  have xa : a.natAbs ≤ 1000000000000 := by unfold inN at ha; omega
  have xb : b.natAbs ≤ 1000000000000 := by unfold inN at hb; omega
  rw [wu64_id (x := (a.natAbs : Int)) (by omega) (by omega), wu64_id (x := (b.natAbs : Int)) (by omega) (by omega), mul64 _ _ (by omega) (by omega), lt_eq]
  have hp : a.natAbs * b.natAbs ≤ 1000000000000 * 1000000000000 := Nat.mul_le_mul xa xb
  have hm : (cond (decide (((a.natAbs * b.natAbs / 18446744073709551616 : Nat) : Int) < 1000)) (
      Option.bind (math_bits_Div64 ((a.natAbs * b.natAbs / 18446744073709551616 : Nat) : Int) ((a.natAbs * b.natAbs % 18446744073709551616 : Nat) : Int) 1000) fun y25 =>
      cond (decide (y25.1 < 1000000000000)) (some (w64 y25.1)) (some 1000000000000)) (some 1000000000000)) = some (mulP a b : Int) := by
    unfold mulP
    generalize a.natAbs * b.natAbs = p at *
    by_cases h : p / 18446744073709551616 < 1000
    · obtain ⟨r, hr⟩ := div1000 (p / 18446744073709551616) (p % 18446744073709551616) h (Nat.mod_lt _ (by decide))
      rw [show decide (((p / 18446744073709551616 : Nat) : Int) < 1000) = true from by simp; omega, cond_true, hr, Option.bind_some]
      have e : (p / 18446744073709551616 * 18446744073709551616 + p % 18446744073709551616) = p := Nat.div_add_mod' p _
      simp only [e]
      by_cases hq : p / 1000 < 1000000000000
      · rw [show decide (((p / 1000 : Nat) : Int) < 1000000000000) = true from by simp; omega, cond_true, w64_id (by omega) (by omega), Nat.min_eq_right (by omega)]
      · rw [show decide (((p / 1000 : Nat) : Int) < 1000000000000) = false from by simp; omega, cond_false, Nat.min_eq_left (by omega)]
        rfl
    · rw [show decide (((p / 18446744073709551616 : Nat) : Int) < 1000) = false from by simp; omega, cond_false, Nat.min_eq_left (by omega)]
      rfl
  simp only []
  rw [hm, Option.bind_some]
  unfold M
  have hb2 : mulP a b ≤ 1000000000000 := Nat.min_le_left _ _
  cases decide (a < 0) <;> cases decide (b < 0) <;> simp
  all_goals (rw [w64_id (by omega) (by omega)]; try omega)

theorem mulP_le (a b : Int) : mulP a b ≤ 1000000000000 := Nat.min_le_left _ _
theorem mulP_comm (a b : Int) : mulP a b = mulP b a := by unfold mulP; rw [Nat.mul_comm]
theorem mulP_neg (a b : Int) : mulP (-a) b = mulP a b := by unfold mulP; rw [Int.natAbs_neg]
theorem mulP_zero (b : Int) : mulP 0 b = 0 := by unfold mulP; simp
theorem mulP_mono {a b c : Int} (h : a.natAbs ≤ c.natAbs) : mulP a b ≤ mulP c b := by
  unfold mulP
  have := Nat.div_le_div_right (c := 1000) (Nat.mul_le_mul_right b.natAbs h)
  omega
theorem M_comm (a b : Int) : M a b = M b a := by
  unfold M
  rw [mulP_comm]
  cases decide (a < 0) <;> cases decide (b < 0) <;> rfl
theorem M_pos {a b : Int} (h : decide (a < 0) = decide (b < 0)) : M a b = mulP a b := if_pos h
theorem M_npos {a b : Int} (h : ¬ decide (a < 0) = decide (b < 0)) : M a b = - (mulP a b : Int) := if_neg h
theorem M_neg (a b : Int) : M (-a) b = - M a b := by
  unfold M
  rw [mulP_neg]
  by_cases h0 : a = 0
  · subst h0; rw [mulP_zero]; split <;> split <;> rfl
  · have e : decide (-a < 0) = !decide (a < 0) := by
      by_cases h : a < 0 <;> simp [h] <;> omega
    rw [e]
    cases decide (a < 0) <;> cases decide (b < 0) <;> simp
theorem M_in (a b : Int) : inN (M a b) := by
  have := mulP_le a b
  unfold inN M
  split <;> omega
theorem M_sign {a b : Int} (h : 0 < M a b) : decide (0 < a) = decide (0 < b) := by
  have hz : a ≠ 0 := fun e => by subst e; unfold M at h; rw [mulP_zero] at h; split at h <;> omega
  have hz2 : b ≠ 0 := fun e => by subst e; unfold M at h; rw [mulP_comm, mulP_zero] at h; split at h <;> omega
  unfold M at h
  split at h
  · rename_i hs
    by_cases h1 : a < 0 <;> by_cases h2 : b < 0 <;> simp [h1, h2] at hs
    · rw [decide_eq_false (by omega), decide_eq_false (by omega)]
    · rw [decide_eq_true (by omega), decide_eq_true (by omega)]
  · omega
theorem M_mono {a b c : Int} (hb : 0 ≤ b) (h : a ≤ c) : M a b ≤ M c b := by
  unfold M
  rw [show decide (b < 0) = false from by simp; omega]
  by_cases h1 : a < 0
  · by_cases h2 : c < 0
    · have := mulP_mono (a := c) (b := b) (c := a) (by omega)
      simp [h1, h2]; omega
    · simp [h1, h2] <;> omega
  · have := mulP_mono (a := a) (b := b) (c := c) (by omega)
    have h2 : ¬ c < 0 := by omega
    simp [h1, h2]; omega
theorem abs_mul (a b : Int) : a * b = if decide (a < 0) = decide (b < 0) then ((a.natAbs * b.natAbs : Nat) : Int) else - ((a.natAbs * b.natAbs : Nat) : Int) := by
  rw [Int.natCast_mul]
  by_cases h1 : a < 0 <;> by_cases h2 : b < 0 <;> simp [h1, h2]
  · rw [show ((a.natAbs : Nat) : Int) = -a from by omega, show ((b.natAbs : Nat) : Int) = -b from by omega, Int.neg_mul_neg]
  · rw [show ((a.natAbs : Nat) : Int) = -a from by omega, show ((b.natAbs : Nat) : Int) = b from by omega, Int.neg_mul, Int.neg_neg]
  · rw [show ((a.natAbs : Nat) : Int) = a from by omega, show ((b.natAbs : Nat) : Int) = -b from by omega, Int.mul_neg, Int.neg_neg]
  · rw [show ((a.natAbs : Nat) : Int) = a from by omega, show ((b.natAbs : Nat) : Int) = b from by omega]
theorem M_rest (a b : Int) : (M a b = 1000000000000 ∨ M a b = -1000000000000) ∨ (-1000 < a * b - 1000 * M a b ∧ a * b - 1000 * M a b < 1000 ∧ (a * b - 1000 * M a b ≠ 0 → (a * b - 1000 * M a b < 0 ↔ a * b < 0))) := by
  rw [abs_mul]
  unfold M mulP
  generalize a.natAbs * b.natAbs = p
  by_cases h : p / 1000 < 1000000000000
  · rw [Nat.min_eq_right (by omega)]
    right
    split <;> omega
  · rw [Nat.min_eq_left (by omega)]
    left
    split
    · left; rfl
    · right; rfl
end Go.Proofs.Ytbealjlgbfpadaa

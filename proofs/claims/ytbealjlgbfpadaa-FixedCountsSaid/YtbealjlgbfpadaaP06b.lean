/-
  What the functions of package fixed compute, in plain words: products and quotients of words.
-/
import Derived.Test.YtbealjlgbfpadaaP06a
namespace Go.Proofs.Ytbealjlgbfpadaa
open Go.V Go.RowKit

/-! ## Products -/
/-- The product in thousandths of two numbers that are at least 0. -/
def mulN (x y : Nat) : Nat := min 1000000000000 (x * y / 1000)

theorem mul64 (x y : Nat) (hx : x < 18446744073709551616) (hy : y < 18446744073709551616) :
    math_bits_Mul64 (x : Int) (y : Int) = (((x * y / 18446744073709551616 : Nat) : Int), ((x * y % 18446744073709551616 : Nat) : Int)) := by
  obtain ⟨h1, h2, h3, h4⟩ := Go.Lib.mul64_hi x y hx hy
  have hc := Go.Lib.half_mul_le (a := x % 4294967296) (b := y / 4294967296) (by omega) (by omega)
  have ha := Go.Lib.half_mul_le (a := x / 4294967296) (b := y / 4294967296) (by omega) (by omega)
  have hb := Go.Lib.half_mul_le (a := x / 4294967296) (b := y % 4294967296) (by omega) (by omega)
  have hlt : x * y / 18446744073709551616 < 18446744073709551616 := by
    apply Nat.div_lt_of_lt_mul
    exact Nat.mul_lt_mul'' hx hy
  unfold math_bits_Mul64
  simp only [lt_eq, ibit_and_mask x hx, ibit_and_mask y hy]
  have p32 : ((2 : Int) ^ 32) = ((4294967296 : Nat) : Int) := by decide
  have fd : ∀ n : Nat, Int.fdiv (n : Int) (2 ^ 32) = ((n / 4294967296 : Nat) : Int) := fun n => by rw [p32, fdiv_pos (by omega) (by omega)]; rfl
  have wn : ∀ n : Nat, n < 18446744073709551616 → wu64 (n : Int) = (n : Int) := fun n h => wu64_id (by omega) (by omega)
  simp only [fd, ← Int.natCast_mul]
  generalize x % 4294967296 * (y % 4294967296) = d at *
  generalize x / 4294967296 * (y % 4294967296) = b at *
  generalize x % 4294967296 * (y / 4294967296) = c at *
  generalize x / 4294967296 * (y / 4294967296) = a at *
  generalize hxy : x * y = xy at *
  rw [wn d h1, wn b (by omega), wn c (by omega), wn a (by omega), fd d, ← Int.natCast_add, wn _ h2, fd, ibit_and_mask _ h2, ← Int.natCast_add, wn (a + _) (by omega), ← Int.natCast_add, wn _ h3, fd, ← Int.natCast_add, h4, wn _ hlt]
  congr 1

theorem lz1000 : math_bits_LeadingZeros64 1000 = some 54 := by decide +kernel

theorem a16 : ibit .and .u64 18014398509481984000 4294967295 = 0 := by decide +kernel
theorem ge_zero (y : Int) : decide (wu64 y < wu64 0) = false := by
  simp only [decide_eq_false_iff_not, Int.not_lt]
  rw [wu64_mod, wu64_mod]
  exact Int.emod_nonneg _ (by decide)
theorem loop1 (x : Int) (q r : Nat) (hq : q < 4294967296) : math_bits_Div64_L1 18014398509481984000 x 2 (q : Int) (r : Int) = some (q : Int) := by
  rw [math_bits_Div64_L1, a16, Int.mul_zero]
  have h1 : decide ((4294967296 : Int) ≤ (q : Int)) = false := by simp; omega
  rw [h1, cond_false, ge_zero, lt_eq, cond_false]
theorem loop2 (x : Int) (q r : Nat) (hq : q < 4294967296) : math_bits_Div64_L2 18014398509481984000 x 2 (r : Int) (q : Int) = some (q : Int) := by
  rw [math_bits_Div64_L2, a16, Int.mul_zero]
  have h1 : decide ((4294967296 : Int) ≤ (q : Int)) = false := by simp; omega
  rw [h1, cond_false, ge_zero, lt_eq, cond_false]

theorem div_q (u : Nat) (h : u < 18014398509481984000) : wu64 (Int.tdiv (u : Int) 4194304000) = ((u / 4194304000 : Nat) : Int) := by
  rw [tdiv_pos (by omega), wu64_id (by omega) (by omega)]; rfl
theorem div_r (u : Nat) (h : u < 18014398509481984000) : wu64 ((u : Int) - wu64 (((u / 4194304000 : Nat) : Int) * 4194304000)) = ((u % 4194304000 : Nat) : Int) := by
  rw [wu64_id (x := ((u / 4194304000 : Nat) : Int) * 4194304000) (by omega) (by omega), wu64_id (by omega) (by omega)]; omega
theorem div_s (l : Nat) : Int.fdiv ((l % 1024 * 18014398509481984 : Nat) : Int) (2 ^ 32) = ((l % 1024 * 4194304 : Nat) : Int) := by
  rw [show (2 : Int) ^ 32 = 4294967296 from by decide, fdiv_pos (by omega) (by omega)]; omega
theorem div_m (u l : Nat) : wu64 (wu64 (wu64 ((u : Int) * 4294967296) + Int.fdiv ((l % 1024 * 18014398509481984 : Nat) : Int) (2 ^ 32)) - wu64 (((u / 4194304000 : Nat) : Int) * 18014398509481984000)) = ((u % 4194304000 * 4294967296 + l % 1024 * 4194304 : Nat) : Int) := by
  rw [div_s, wu64_mod, wu64_mod, wu64_mod, wu64_mod]
  omega

/-- Div64 by 1000. -/
theorem div1000 (h l : Nat) (hh : h < 1000) (hl : l < 18446744073709551616) : ∃ r, math_bits_Div64 (h : Int) (l : Int) 1000 = some ((((h * 18446744073709551616 + l) / 1000 : Nat) : Int), r) := by
  unfold math_bits_Div64
  have c1 : ((1000 : Int) == 0) = false := by decide
  have c2 : decide ((1000 : Int) ≤ (h : Int)) = false := by simp; omega
  rw [c1, cond_false, c2, cond_false]
  by_cases h0 : h = 0
  · subst h0
    rw [show (((0 : Nat) : Int) == 0) = true from rfl, cond_true, chk_pos (by decide), tdiv_pos (by omega)]
    refine ⟨Int.tmod l 1000, ?_⟩
    rw [wu64_id (by omega) (by omega)]
    congr 2
    omega
  · have c3 : ((h : Int) == 0) = false := by simp; omega
    rw [c3, cond_false, lz1000, Option.bind_some]
    have w54 : wu64 54 = 54 := by decide
    have m54 : Nat.min (54 : Int).toNat 64 = 54 := by decide
    have w10 : wu64 (64 - 54) = 10 := by decide
    have m10 : Nat.min (10 : Int).toNat 64 = 10 := by decide
    have x16 : wu64 (1000 * 2 ^ 54) = 18014398509481984000 := by decide
    have d16 : Int.fdiv 18014398509481984000 (2 ^ 32) = 4194304000 := by decide
    have p54 : (2 : Int) ^ 54 = 18014398509481984 := by decide
    have p10 : (2 : Int) ^ 10 = 1024 := by decide
    have p32 : (2 : Int) ^ 32 = 4294967296 := by decide
    have e23 : wu64 ((h : Int) * 2 ^ 54) = ((2 ^ 54 * h : Nat) : Int) := by rw [wu64_id (by omega) (by omega)]; omega
    have e25 : Int.fdiv (l : Int) (2 ^ 10) = ((l / 1024 : Nat) : Int) := by rw [p10, fdiv_pos (by omega) (by omega)]; rfl
    have e28 : wu64 ((l : Int) * 2 ^ 54) = ((l % 1024 * 18014398509481984 : Nat) : Int) := by rw [wu64_mod, p54]; omega
    rw [w54, chk_pos (p := (0 : Int) ≤ 54) (by decide), m54, lt_val x16, lt_val e23, w10, chk_pos (p := (0 : Int) ≤ 10) (by decide), m10, lt_val e25, lt_val e28, d16, chk_pos (p := (4194304000 : Int) ≠ 0) (by decide), ibit_or_add h (l / 1024) 54 (by omega) (by omega)]
    generalize hu : 2 ^ 54 * h + l / 1024 = u
    have ub : u < 18014398509481984000 := by omega
    have hq : u / 4194304000 < 4294967296 := by clear hu; omega
    rw [lt_val (div_q u ub), lt_val (div_r u ub), loop1 _ _ _ hq, Option.bind_some, lt_eq, lt_val (div_m u l)]
    obtain ⟨v, hv⟩ : ∃ v, v = u % 4194304000 * 4294967296 + l % 1024 * 4194304 := ⟨_, rfl⟩
    rw [← hv]
    have vb : v < 18014398509481984000 := by clear hu; omega
    have hw : v / 4194304000 < 4294967296 := by clear hu hv; omega
    rw [lt_val (div_q v vb), lt_val (div_r v vb), loop2 _ _ _ hw, Option.bind_some]
    rw [lt_eq, lt_eq]
    have e2 : u / 4194304000 * 4294967296 + v / 4194304000 = (h * 18446744073709551616 + l) / 1000 := by
      clear c1 c2 c3 w54 m54 w10 m10 x16 d16 p54 p10 p32 e23 e25 e28
      omega
    have e : wu64 (wu64 (((u / 4194304000 : Nat) : Int) * 4294967296) + ((v / 4194304000 : Nat) : Int)) = (((h * 18446744073709551616 + l) / 1000 : Nat) : Int) := by
      clear c1 c2 c3 w54 m54 w10 m10 x16 d16 p54 p10 p32 e23 e25 e28
      rw [wu64_id (x := ((u / 4194304000 : Nat) : Int) * 4294967296) (by clear hu hv; omega) (by clear hu hv; omega), wu64_id (by clear hu hv; omega) (by clear hu hv; omega), ← e2, Int.natCast_add, Int.natCast_mul]
      rfl
    rw [e]
    exact ⟨_, rfl⟩
end Go.Proofs.Ytbealjlgbfpadaa

/-
  What the functions of package fixed compute, in plain words: checks, sums, products.
-/
import Derived.Test.YtbealjlgbfpadaaW06
import Derived.Test.YtbealjlgbfpadaaVP
namespace Go.Proofs.Ytbealjlgbfpadaa
open Go.V Go.RowKit

theorem alive_true : law06_alive = some true := by decide +kernel

/-- A number of the chapter's. -/
def inN (x : Int) : Prop := -1000000000000 ≤ x ∧ x ≤ 1000000000000
instance (x : Int) : Decidable (inN x) := by unfold inN; exact inferInstance

theorem is_true {x : Int} (h : inN x) : r06_Is x = true := by
  unfold inN at h
  simp [r06_Is, lt_eq, h.1, h.2]
theorem is_false {x : Int} (h : ¬ inN x) : r06_Is x = false := by
  unfold inN at h
  simp only [r06_Is, lt_eq]
  cases h1 : decide (-1000000000000 ≤ x) <;> simp at h1 ⊢
  omega
theorem is_iff {x : Int} : r06_Is x = true ↔ inN x := by
  by_cases h : inN x
  · simp [is_true h, h]
  · simp [is_false h, h]

theorem check_L1 (l : List Int) (hl : l.length < 2305843009213693952) : ∀ (m i : Nat), i ≤ l.length → l.length - i < m →
    fixed_check_L1 l m (i : Int) = some (if ∀ x ∈ l.drop i, inN x then .inr () else .inl 8) := by
  intro m
  induction m with
  | zero => intro i _ h; omega
  | succ m ih =>
    intro i hi hm
    rw [fixed_check_L1]
    by_cases hlt : i < l.length
    · rw [lt_dec hlt, cond_true, chk_ix hlt, lt_eq, gi_nat l i hlt]
      have hd : l.drop i = l[i] :: l.drop (i + 1) := List.drop_eq_getElem_cons hlt
      by_cases hin : inN l[i]
      · have hc : (cond (decide (l[i] < -1000000000000)) true (decide (1000000000000 < l[i]))) = false := by
          unfold inN at hin
          rw [show decide (l[i] < -1000000000000) = false from by simp; omega, cond_false]
          simp; omega
        rw [hc, cond_false, w64_ix (by omega), ih (i + 1) (by omega) (by omega)]
        have he : (∀ x ∈ l.drop i, inN x) ↔ ∀ x ∈ l.drop (i + 1), inN x := by
          rw [hd, List.forall_mem_cons]; exact ⟨And.right, And.intro hin⟩
        simp only [he]
      · have hc : (cond (decide (l[i] < -1000000000000)) true (decide (1000000000000 < l[i]))) = true := by
          unfold inN at hin
          cases hb : decide (l[i] < -1000000000000) with
          | true => rfl
          | false => simp at hb; simp; omega
        rw [hc, cond_true, if_neg]
        intro h
        exact hin (h _ (hd ▸ List.mem_cons_self))
    · have e : l.drop i = [] := List.drop_eq_nil_of_le (by omega)
      rw [ge_dec (by omega), cond_false, e]
      simp

theorem check_ok {l : List Int} (hl : l.length < 2305843009213693952) (h : ∀ x ∈ l, inN x) : fixed_check l = some 0 := by
  unfold fixed_check
  rw [fuel_ix, show (0 : Int) = ((0 : Nat) : Int) from rfl, check_L1 l hl _ 0 (by omega) (by omega), List.drop_zero, if_pos h]
  rfl
theorem check_bad {l : List Int} (hl : l.length < 2305843009213693952) (h : ¬ ∀ x ∈ l, inN x) : fixed_check l = some 8 := by
  unfold fixed_check
  rw [fuel_ix, show (0 : Int) = ((0 : Nat) : Int) from rfl, check_L1 l hl _ 0 (by omega) (by omega), List.drop_zero, if_neg h]
  rfl
theorem check1 {a : Int} (h : inN a) : fixed_check [a] = some 0 := check_ok (by simp) (by simp [h])
theorem check2 {a b : Int} (h : inN a) (h2 : inN b) : fixed_check [a, b] = some 0 := check_ok (by simp) (by simp [h, h2])
theorem check3 {a b c : Int} (h : inN a) (h2 : inN b) (h3 : inN c) : fixed_check [a, b, c] = some 0 := check_ok (by simp) (by simp [h, h2, h3])

theorem hold_eq (x : Int) : fixed_hold x = if x < -1000000000000 then -1000000000000 else if 1000000000000 < x then 1000000000000 else x := by
  simp only [fixed_hold, lt_eq]
  split <;> split <;> (try split) <;> omega
theorem hold_in {x : Int} (h : inN x) : fixed_hold x = x := by
  unfold inN at h
  rw [hold_eq, if_neg (by omega), if_neg (by omega)]
theorem in_hold (x : Int) : inN (fixed_hold x) := by
  rw [hold_eq]
  unfold inN
  split
  · omega
  · split <;> omega

theorem sum2 {a b : Int} (ha : inN a) (hb : inN b) : fixed_Sum [a, b] = some (fixed_hold (a + b), 0) := by
  unfold fixed_Sum
  rw [check2 ha hb]
  have h0 : w64 (0 + a) = a := by unfold inN at ha; rw [w64_id (by omega) (by omega)]; omega
  have h1 : w64 (a + b) = a + b := by unfold inN at ha hb; exact w64_id (by omega) (by omega)
  have g0 : gi [a, b] 0 = a := rfl
  have g1 : gi [a, b] 1 = b := rfl
  have w1 : w64 (0 + 1) = 1 := by decide
  have w2 : w64 (1 + 1) = 2 := by decide
  have l2 : ln [a, b] = 2 := rfl
  simp only [Option.bind_some, l2]
  rw [show ((2 : Int) - 0).toNat + 1 = 3 from by decide]
  simp only [fixed_Sum_L1, l2, g0, g1, w1, w2, h0, hold_in ha, h1]
  simp [chk]

theorem within_ok {n a b : Int} (hn : inN n) (ha : inN a) (hb : inN b) (hab : a ≤ b) : fixed_Within n a b = some (if n < a then a else if b < n then b else n, 0) := by
  unfold fixed_Within
  rw [check3 hn ha hb]
  have h1 : decide (b < a) = false := by simp; omega
  simp only [Option.bind_some, h1, cond_false, lt_eq, bne_self_eq_false, Option.some.injEq, Prod.mk.injEq, and_true]
  split <;> split <;> (try split) <;> omega
theorem whole_ok {n : Int} (hn : inN n) : fixed_Whole n = some (n - Int.tmod n 1000, 0) := by
  unfold fixed_Whole
  rw [check1 hn]
  unfold inN at hn
  have h := Int.tmod_eq_emod_of_nonneg (a := n) (b := 1000)
  have : w64 (n - Int.tmod n 1000) = n - Int.tmod n 1000 := by
    have h2 : -1000 < Int.tmod n 1000 := Int.lt_tmod_of_pos n (by decide)
    have h3 : Int.tmod n 1000 < 1000 := Int.tmod_lt_of_pos n (by decide)
    exact w64_id (by omega) (by omega)
  rw [this]
  rfl

end Go.Proofs.Ytbealjlgbfpadaa

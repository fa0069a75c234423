/-
  The laws of layer 6 that read and write numbers, in plain words.
-/
import Derived.Test.YtbealjlgbfpadaaDoorPW3
namespace Go.Proofs.YtbealjlgbfpadaaDoor
open Go Go.V
set_option maxRecDepth 100000
theorem plain_FixedNames : law06_FixedNames 64 = some true := by kernel_rfl
theorem alive5000 : law06_alive 5000 = some true := by kernel_rfl
theorem whole_eq (n : Int) : ∃ x, fixed_Whole 5000 n = some x ∧ r06_Whole n = x := by
  unfold fixed_Whole r06_Whole
  by_cases h : inR n
  · rw [check_in h, is_in h]
    refine ⟨_, rfl, ?_⟩
    simp only [Bool.not_true, cond_false]
    have e : Int.tmod n 1000 = n - 1000 * Int.tdiv n 1000 := by have := Int.mul_tdiv_add_tmod n 1000; omega
    rw [e]
    have hb : -1000000000000 ≤ Int.tdiv n 1000 ∧ Int.tdiv n 1000 ≤ 1000000000000 := by
      have h1 := Int.natAbs_tdiv_le_natAbs n 1000
      unfold inR at h
      omega
    have hr : -1000 < Int.tmod n 1000 ∧ Int.tmod n 1000 < 1000 := by
      have h1 := Int.tmod_lt_of_pos n (show (0 : Int) < 1000 by decide)
      have h2 := Int.tmod_lt_of_pos (-n) (show (0 : Int) < 1000 by decide)
      rw [Int.neg_tmod] at h2
      omega
    unfold inR at h
    rw [w64_id (x := Int.tdiv n 1000) (by omega) (by omega), w64_id (by omega) (by omega), w64_id (by omega) (by omega)]
    congr 1
    omega
  · rw [check_out h, is_out h]
    exact ⟨_, rfl, rfl⟩
theorem plain_FixedReads (n : Int) (s : Str) {p q : Prop} (_ : p) (_ : q) : law06_FixedReads 5000 n s = some true := by
  unfold law06_FixedReads
  rw [lt_eq]
  cases hc : cond (cond (decide (500 < ln s)) (decide (ln s ≤ 4000)) false) true (decide (4100 < ln s))
  · rw [cond_false]
    obtain ⟨v, v1, v2⟩ := value_eq 5000 s (by decide)
    obtain ⟨x, x1, x2⟩ := whole_eq n
    have hread : fixed_Read 5000 s = some (v.1, v.2.2) ∧ r06_Read 5000 s = some (v.1, v.2.2) := by
      unfold fixed_Read r06_Read
      rw [v1, v2]
      exact ⟨rfl, rfl⟩
    have hw : ∃ t, fixed_Write 5000 n = some t ∧ r06_Write 5000 n = some t := by
      by_cases h : inR n
      · exact ⟨_, write_t h, write_r h⟩
      · exact ⟨_, (write_out h).1, (write_out h).2⟩
    obtain ⟨t, t1, t2⟩ := hw
    have hk : ∃ k, fixed_Check 5000 n = some k ∧ r06_Check n = k := by
      unfold fixed_Check r06_Check
      by_cases h : inR n
      · rw [check_in h, is_in h]; exact ⟨_, rfl, rfl⟩
      · rw [check_out h, is_out h]; exact ⟨_, rfl, rfl⟩
    obtain ⟨k, k1, k2⟩ := hk
    rw [hread.1, hread.2, t1, t2, x1, k1, x2, k2]
    simp only [Option.bind_some, lt_eq, beq_self_eq_true, cond_true]
  · rfl
theorem plain_FixedBack (a b : Int) {p q : Prop} (_ : p) (_ : q) : law06_FixedBack 5000 a b = some true := by
  unfold law06_FixedBack
  by_cases ha : inR a
  · by_cases hb : inR b
    · rw [is_in ha, is_in hb, write_t ha, write_t hb]
      obtain ⟨x, hx⟩ := read_txt ha
      obtain ⟨y, hy⟩ := read_txt hb
      have hr : fixed_Read 5000 (txtI a) = some (a, 0) := by unfold fixed_Read; rw [hx]; rfl
      have hl := txtI_len a
      have hi : ((txtI a == txtI b) == (a == b)) = true := by
        by_cases e : a = b
        · rw [e]; simp
        · have : txtI a ≠ txtI b := by
            intro h
            rw [h, hy] at hx
            injection hx with h1
            injection h1 with h2
            exact e h2.symm
          rw [beq_eq_false_iff_ne.2 this, beq_eq_false_iff_ne.2 e]
          rfl
      simp only [Bool.not_true, cond_false, Option.bind_some, lt_eq]
      rw [hr]
      simp only [Option.bind_some, hi, beq_self_eq_true, cond_true]
      rw [decide_eq_true (show 1 ≤ ln (txtI a) by unfold ln; omega), decide_eq_true (show ln (txtI a) ≤ 15 by unfold ln; omega)]
      simp only [cond_true, alive5000, Option.bind_some]
    · rw [is_in ha, is_out hb]
      simp only [Bool.not_true, Bool.not_false, cond_false, cond_true, alive5000, Option.bind_some]
  · rw [is_out ha]
    simp only [Bool.not_false, cond_true, alive5000, Option.bind_some]
end Go.Proofs.YtbealjlgbfpadaaDoor

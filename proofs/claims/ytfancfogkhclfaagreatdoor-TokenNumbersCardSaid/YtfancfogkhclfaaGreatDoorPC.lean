/-
  Cleaning: both readers clean alike, and what is clean stays as it is.
-/
import Derived.Test.YtfancfogkhclfaaGreatDoorVP
import Derived.Test.YtfancfogkhclfaaGreatDoorM
set_option linter.unusedVariables false
set_option maxRecDepth 20000
namespace Go.Proofs.YtfancfogkhclfaaGreatDoor
open Go Go.V Go.RowKit
def badB (c : UInt8) : Bool := ([0, 12, 13] : Str).contains c
def hasC (s : Str) : Bool := s.any badB
theorem hasC_cons (c : UInt8) (s : Str) : hasC (c :: s) = (badB c || hasC s) := rfl
theorem hasC_app (s t : Str) : hasC (s ++ t) = (hasC s || hasC t) := by simp [hasC]
theorem bat10 (s : Str) (i : Nat) (h : i < s.length) : (bat s (i : Int) == 10) = decide (s[i] = 10) := by
  rw [bat_nat s i h]
  have := d10 s[i]
  rw [← this]
  rfl
theorem bat13 (s : Str) (i : Nat) (h : i < s.length) : (bat s (i : Int) == 13) = decide (s[i] = 13) := by
  rw [bat_nat s i h]
  have := d13 s[i]
  rw [← this]
  rfl
theorem cleanB_ok (c : UInt8) : hasC (cleanB c) = false ∧ (cleanB c).length ≤ 3 ∧ (badB c = false → cleanB c = [c]) := by
  have : ∀ n : Fin 256, hasC (cleanB (UInt8.ofNat n.val)) = false ∧ (cleanB (UInt8.ofNat n.val)).length ≤ 3 ∧ (badB (UInt8.ofNat n.val) = false → cleanB (UInt8.ofNat n.val) = [UInt8.ofNat n.val]) := by decide +kernel
  have := this ⟨c.toNat, c.toNat_lt⟩
  simpa using this
theorem hasC_clean : ∀ (p : Bool) (s : Str), hasC (cleanS p s) = false
  | _, [] => by simp [cleanS, hasC]
  | p, c :: s => by
    unfold cleanS
    split
    · exact hasC_clean false s
    · rw [hasC_app, (cleanB_ok c).1, hasC_clean _ s]; rfl
theorem len_clean : ∀ (p : Bool) (s : Str), (cleanS p s).length ≤ 3 * s.length
  | _, [] => by simp [cleanS]
  | p, c :: s => by
    unfold cleanS
    split
    · have := len_clean false s; simp only [List.length_cons]; omega
    · have := len_clean (decide (c = 13)) s
      have := (cleanB_ok c).2.1
      simp only [List.length_cons, List.length_append]; omega
theorem clean_id : ∀ s : Str, hasC s = false → cleanS false s = s
  | [], _ => rfl
  | c :: s, h => by
    rw [hasC_cons, Bool.or_eq_false_iff] at h
    have h13 : c ≠ 13 := fun e => by subst e; simp [badB] at h
    rw [cleanS_app, (cleanB_ok c).2.2 h.1, decide_eq_false h13, clean_id s h.2]
    rfl
theorem cleanF_small (s : Str) (h : s.length ≤ 4000) : cleanF s = (cleanS false s, 0) := by rw [cleanF, if_neg (by unfold ln; omega)]
/-- Is a CR ahead of a place? -/
def pcr (s : Str) (i : Nat) : Bool := decide (0 < i) && (bat s ((i : Int) - 1) == 13)
theorem pcr_succ (s : Str) (i : Nat) (h : i < s.length) : pcr s (i + 1) = decide (s[i] = 13) := by
  unfold pcr
  rw [show (((i + 1 : Nat) : Int) - 1) = (i : Int) from by omega, bat13 s i h]
  simp
theorem skip_eq (s : Str) (i : Nat) (h : i < s.length) (hs : s.length ≤ 1000000) {α : Type} (k : Bool → Option α) :
    (lt (cond ((bat s (i : Int)) == 10) (decide ((0 : Int) < (i : Int))) false) fun x16 =>
    chk (x16 = true → 0 ≤ (w64 ((i : Int) - 1)) ∧ (w64 ((i : Int) - 1)) < ln s) <|
    lt (cond x16 ((bat s (w64 ((i : Int) - 1))) == 13) false) k) = k (decide (s[i] = 10) && pcr s i) := by
  rw [lt_eq, bat10 s i h, w64_id (by omega) (by omega)]
  rw [chk_pos (by
    intro hx
    by_cases hc : s[i] = 10
    · rw [decide_eq_true hc, cond_true] at hx
      have := of_decide_eq_true hx
      exact ⟨by omega, by unfold ln; omega⟩
    · rw [decide_eq_false hc, cond_false] at hx
      cases hx), lt_eq]
  congr 1
  unfold pcr
  by_cases hc : s[i] = 10
  · rw [decide_eq_true hc]
    by_cases h0 : 0 < i
    · have : decide ((0 : Int) < (i : Int)) = true := decide_eq_true (by omega)
      rw [this, decide_eq_true h0]; rfl
    · have : decide ((0 : Int) < (i : Int)) = false := decide_eq_false (by omega)
      rw [this, decide_eq_false h0]; rfl
  · rw [decide_eq_false hc]; rfl
theorem clean_step (s : Str) (i : Nat) (h : i < s.length) : cleanS (pcr s i) (s.drop i) = if (decide (s[i] = 10) && pcr s i) = true then cleanS false (s.drop (i + 1)) else cleanB s[i] ++ cleanS (decide (s[i] = 13)) (s.drop (i + 1)) := by
  rw [List.drop_eq_getElem_cons h]
  rw [cleanS]
  by_cases hp : pcr s i = true
  · by_cases hc : s[i] = 10
    · rw [if_pos ⟨hp, hc⟩, if_pos (by simp [hp, hc])]
    · rw [if_neg (fun e => hc e.2), if_neg (by simp [hc])]
  · rw [if_neg (fun e => hp e.1), if_neg (by simp [hp])]
theorem clean_next (s : Str) (i : Nat) (h : i < s.length) : cleanS (pcr s i) (s.drop i) = (if (decide (s[i] = 10) && pcr s i) = true then [] else cleanB s[i]) ++ cleanS (pcr s (i + 1)) (s.drop (i + 1)) := by
  rw [clean_step s i h, pcr_succ s i h]
  by_cases hx : (decide (s[i] = 10) && pcr s i) = true
  · rw [if_pos hx, if_pos hx]
    have hc : s[i] = 10 := by simp at hx; exact hx.1
    rw [decide_eq_false (by rw [hc]; decide)]
    rfl
  · rw [if_neg hx, if_neg hx]
theorem out_byte (c : UInt8) : ∀ (f : Int → Option Str), (Option.bind (cond (cond (((c.toNat : Int)) == 13) true (((c.toNat : Int)) == 12)) (some (10 : Int)) (some (c.toNat : Int))) f) = f (if c = 13 ∨ c = 12 then 10 else (c.toNat : Int)) := by
  intro f
  have e1 : (((c.toNat : Int)) == 13) = decide (c = 13) := by rw [← d13 c]; rfl
  have e2 : (((c.toNat : Int)) == 12) = decide (c = 12) := by rw [← d12 c]; rfl
  rw [e1, e2]
  by_cases h1 : c = 13
  · simp [h1]
  · by_cases h2 : c = 12
    · simp [h2]
    · simp [h1, h2]
theorem cleaned_L1 (m : Nat) (s : Str) (hs : s.length ≤ 1000000) : ∀ (kk i : Nat) (o : Str), i ≤ s.length → s.length - i < kk → o.length ≤ 3 * i → r01_Cleaned_L1 m s kk o (i : Int) = some (o ++ cleanS (pcr s i) (s.drop i)) := by
  intro kk
  induction kk with
  | zero => intro i o _ h; omega
  | succ kk ih =>
    intro i o hi hk ho
    rw [r01_Cleaned_L1]
    by_cases h : i < s.length
    · rw [bTe (lt_dec h), chk_ix h, skip_eq s i h hs, w64_ix (by omega)]
      rw [clean_next s i h]
      cases hx : (decide (s[i] = 10) && pcr s i) with
      | true =>
        rw [if_pos rfl, bTe rfl]
        simp only [Option.bind_some]
        rw [ih (i + 1) o (by omega) (by omega) (by omega)]
        rfl
      | false =>
        rw [if_neg (by simp), bFe rfl, lt_eq, bat_nat s i h, out_byte]
        have hb := (cleanB_ok s[i]).2.1
        have key : ∀ z : Str, z.length ≤ 3 → chk (ln o + ln z ≤ 9223372036854775807) (some (o ++ z)) = some (o ++ z) := fun z hz => chk_pos (by unfold ln; omega)
        have fin : ∀ z : Str, z = cleanB s[i] → (Option.bind (some (o ++ z)) fun (z12 : Str) => r01_Cleaned_L1 m s kk z12 ((i + 1 : Nat) : Int)) = some (o ++ (cleanB s[i] ++ cleanS (pcr s (i + 1)) (s.drop (i + 1)))) := fun z hz => by
          simp only [Option.bind_some]
          subst hz
          rw [ih (i + 1) _ (by omega) (by omega) (by simp; omega)]
          simp
        by_cases h1 : s[i] = 13 ∨ s[i] = 12
        · rw [if_pos h1, bFe (by decide), key _ (by simp [toB])]
          exact fin _ (by rw [cleanB, if_pos h1]; rfl)
        · rw [if_neg h1]
          have e0 : (((s[i].toNat : Int)) == 0) = decide (s[i] = 0) := by rw [← d0 s[i]]; rfl
          rw [e0]
          by_cases h2 : s[i] = 0
          · rw [bTe (decide_eq_true h2), key _ (by simp [toB])]
            exact fin _ (by rw [cleanB, if_neg h1, if_pos h2]; rfl)
          · rw [bFe (decide_eq_false h2), key _ (by simp [toB])]
            exact fin _ (by rw [cleanB, if_neg h1, if_neg h2]; simp [toB])
    · rw [bFe (ge_dec (by omega)), List.drop_eq_nil_of_le (by omega)]
      simp [cleanS]
theorem cleaned_eq (m : Nat) (s : Str) (hs : s.length ≤ 1000000) (hm : s.length < m) : r01_Cleaned m s = some (cleanS false s) := by
  unfold r01_Cleaned
  have := cleaned_L1 m s hs m 0 [] (by omega) (by omega) (by simp)
  rw [show ((0 : Nat) : Int) = 0 from rfl] at this
  rw [this, List.drop_zero]
  rfl
theorem rclean_eq (m : Nat) (s : Str) (hm : 4000 < m) : r01_Clean m s = some (cleanF s) := by
  unfold r01_Clean cleanF
  by_cases h : 4000 < ln s
  · rw [bTe (decide_eq_true h), if_pos h]
  · rw [bFe (decide_eq_false h), if_neg h, cleaned_eq m s (by unfold ln at h; omega) (by unfold ln at h; omega)]
    rfl
end Go.Proofs.YtfancfogkhclfaaGreatDoor

/-
  Comments: both readers go on from the same place, and what lies between is nothing but comments.
-/
import Derived.Test.YtfancfogkhclfaaGreatDoorPX
import Derived.Lib.IndexMore
set_option linter.unusedVariables false
namespace Go.Proofs.YtfancfogkhclfaaGreatDoor
open Go Go.V
set_option maxRecDepth 100000
def at2 (a b : Nat) (s : Str) (i : Nat) : Bool := cond (tst (isb a) s i) (tst (isb b) s (i + 1)) false
theorem at2_lt {a b : Nat} {s : Str} {i : Nat} (h : at2 a b s i = true) : i + 2 ≤ s.length := by
  unfold at2 at h
  cases h1 : tst (isb a) s i with
  | false => rw [h1] at h; cases h
  | true => rw [h1, cond_true] at h; exact tst_lt h
theorem isb_eq (a b : UInt8) : isb b.toNat a = (a == b) := by
  unfold isb
  by_cases h : a = b
  · subst h; simp
  · rw [beq_eq_false_iff_ne.2 h]
    exact beq_eq_false_iff_ne.2 fun h2 => h (UInt8.toNat_inj.1 h2)
theorem occ2 (a b : UInt8) (s : Str) (i : Nat) : Lib.occAt s [a, b] i = at2 a.toNat b.toNat s i := by
  unfold Lib.occAt at2
  by_cases h1 : i < s.length
  · rw [List.drop_eq_getElem_cons h1, tst_at h1, isb_eq]
    by_cases h2 : i + 1 < s.length
    · rw [List.drop_eq_getElem_cons h2, tst_at h2, isb_eq]
      rw [List.isPrefixOf, List.isPrefixOf, List.isPrefixOf]
      rw [Bool.and_true, BEq.comm (a := a), BEq.comm (a := b)]
      cases s[i] == a <;> rfl
    · rw [tst_end _ (by omega), List.drop_eq_nil_of_le (by omega)]
      show (a == s[i] && false) = _
      rw [Bool.and_false]
      cases s[i] == a <;> rfl
  · rw [tst_end _ (by omega), List.drop_eq_nil_of_le (by omega)]; rfl
theorem hp2 (a b : UInt8) (u : Str) : strings_HasPrefix u [a, b] = some ([a, b].isPrefixOf u) := by
  have hpl : ln ([a, b] : Str) = 2 := rfl
  unfold strings_HasPrefix stringslite_HasPrefix
  rw [hpl]
  match u with
  | [] => rfl
  | [x] =>
    show some false = some (a == x && false)
    rw [Bool.and_false]
  | x :: y :: r =>
    have hl : ln (x :: y :: r) = ((r.length + 2 : Nat) : Int) := rfl
    have hd : decide ((2 : Int) ≤ ln (x :: y :: r)) = true := decide_eq_true (by rw [hl]; omega)
    have hs : sub (x :: y :: r) 0 2 = [x, y] := rfl
    rw [hd, chk_pos (fun _ => ⟨by omega, of_decide_eq_true hd⟩), lt_eq, cond_true, hs, Option.bind_some, List.isPrefixOf, List.isPrefixOf, List.isPrefixOf, Bool.and_true]
    congr 1
    rw [Bool.eq_iff_iff, Bool.and_eq_true, beq_iff_eq, beq_iff_eq, beq_iff_eq]
    constructor
    · intro h; injection h with h1 h2; injection h2 with h2 h3; exact ⟨h1.symm, h2.symm⟩
    · rintro ⟨rfl, rfl⟩; rfl
theorem hp2_at (a b : UInt8) (s : Str) (i : Nat) (hi : i ≤ s.length) : strings_HasPrefix (sub s (i : Int) (ln s)) [a, b] = some (at2 a.toNat b.toNat s i) := by
  rw [hp2, ← occ2, sub_to_end s i hi]; rfl
theorem has2 (a b : UInt8) (s : Str) (i : Nat) (hs : s.length < 100000) (hi : i ≤ s.length) : r02_has s (i : Int) [a, b] = some (at2 a.toNat b.toNat s i) := by
  obtain ⟨x, h1, h2, _⟩ := has_eq s i [a, b] hs hi (by simp)
  rw [hp2_at a b s i hi] at h1
  rw [h2, ← h1]
/-- Where a comment ends whose text begins at i: 'z' is the place of its last two bytes, or the end. -/
structure CEnd (s : Str) (i z : Nat) : Prop where
  le : i ≤ z
  len : z ≤ s.length
  no : ∀ j, i ≤ j → j < z → at2 42 47 s j = false
  fin : z = s.length ∨ at2 42 47 s z = true
theorem L2_r (m : Nat) (s : Str) (hs : s.length < 100000) : ∀ (kk i : Nat), s.length - i < kk → i ≤ s.length → ∃ z : Nat, r02_Past_L2 m s kk (i : Int) = some (z : Int) ∧ CEnd s i z := by
  intro kk
  induction kk with
  | zero => intro i h; omega
  | succ kk ih =>
    intro i hk hi
    rw [r02_Past_L2, has2 42 47 s i hs hi]
    by_cases hlt : i < s.length
    · rw [lt_dec hlt, cond_true, Option.bind_some, lt_eq, cond_true]
      cases h : at2 (42 : UInt8).toNat (47 : UInt8).toNat s i with
      | true => exact ⟨i, rfl, Nat.le_refl _, hi, fun j a b => by omega, Or.inr h⟩
      | false =>
        rw [Bool.not_false, cond_true, w64_ix (by omega)]
        obtain ⟨z, h1, h2⟩ := ih (i + 1) (by omega) hlt
        refine ⟨z, h1, by have := h2.le; omega, h2.len, fun j a b => ?_, h2.fin⟩
        by_cases hj : j = i
        · subst hj; exact h
        · exact h2.no j (by omega) b
    · rw [ge_dec (by omega), cond_false, Option.bind_some, lt_eq, cond_false]
      exact ⟨i, rfl, Nat.le_refl _, hi, fun j a b => by omega, Or.inl (by omega)⟩
theorem cend_index {s : Str} {i z : Nat} (h : CEnd s i z) : Lib.index (s.drop i) [42, 47] = if z = s.length then -1 else ((z - i : Nat) : Int) := by
  have hle := h.le
  have hln := h.len
  have hocc : ∀ j, Lib.occAt (s.drop i) [42, 47] j = at2 42 47 s (i + j) := fun j => by
    have h1 : Lib.occAt s [42, 47] (i + j) = at2 42 47 s (i + j) := occ2 42 47 s (i + j)
    rw [← h1]
    unfold Lib.occAt
    rw [List.drop_drop]
  by_cases hz : z = s.length
  · rw [if_pos hz]
    refine Lib.index_none fun j hj => ?_
    rw [hocc]
    by_cases h2 : i + j < z
    · exact h.no _ (by omega) h2
    · cases h3 : at2 42 47 s (i + j) with
      | false => rfl
      | true => have := at2_lt h3; omega
  · rw [if_neg hz]
    refine Lib.index_first (by rw [List.length_drop]; omega) ?_ fun j hj => ?_
    · rw [hocc, show i + (z - i) = z from by omega]
      exact h.fin.resolve_left hz
    · rw [hocc]; exact h.no _ (by omega) (by omega)
/-- From i to j there is nothing but comments; the last one may be open at the end of the whole. -/
inductive Com (s : Str) : Bool → Nat → Nat → Prop
  | nil (i : Nat) : Com s false i i
  | more {i z j : Nat} {b : Bool} : at2 47 42 s i = true → CEnd s (i + 2) z → at2 42 47 s z = true → Com s b (z + 2) j → Com s b i j
  | last {i : Nat} : at2 47 42 s i = true → CEnd s (i + 2) s.length → Com s true i s.length
theorem comm_eq (m : Nat) (s : Str) (hs : s.length < 100000) (hm : s.length < m) : ∀ (kk i : Nat), s.length - i + 1 < kk → i ≤ s.length →
    ∃ (j : Nat) (b : Bool), token_scanner_comments_L1 m s kk (i : Int) = some (j : Int) ∧ r02_Past_L1 m s kk (i : Int) = some (j : Int) ∧ i ≤ j ∧ j ≤ s.length ∧ at2 47 42 s j = false ∧ Com s b i j ∧ (b = true → j = s.length) := by
  intro kk
  induction kk with
  | zero => intro i h; omega
  | succ kk ih =>
    intro i hk hi
    have hend : ∀ q, s.length ≤ q → at2 47 42 s q = false := fun q hq => by
      cases h3 : at2 47 42 s q with
      | false => rfl
      | true => have := at2_lt h3; omega
    rw [token_scanner_comments_L1, r02_Past_L1, chk_pos ⟨by omega, by unfold ln; omega⟩, hp2_at 47 42 s i hi, has2 47 42 s i hs hi, Option.bind_some, Option.bind_some]
    cases h : at2 (47 : UInt8).toNat (42 : UInt8).toNat s i with
    | false => exact ⟨i, false, rfl, rfl, Nat.le_refl _, hi, h, .nil i, fun h => by cases h⟩
    | true =>
      have hl := at2_lt h
      have hw : w64 ((i : Int) + 2) = ((i + 2 : Nat) : Int) := w64_add (n := 2) (by omega)
      obtain ⟨z, z1, z2⟩ := L2_r m s hs m (i + 2) (by omega) hl
      have hzl := z2.len
      have hzg := z2.le
      rw [cond_true, cond_true, hw, z1, Option.bind_some, lt_eq, chk_pos ⟨by omega, by unfold ln; omega⟩, sub_to_end s (i + 2) hl]
      unfold x_strings_Index
      rw [chk_pos (by rw [List.length_drop]; omega), Option.bind_some, cend_index z2]
      have hwz : w64 ((z : Int) + 2) = ((z + 2 : Nat) : Int) := w64_add (n := 2) (by omega)
      rw [hwz]
      by_cases hz : z = s.length
      · rw [if_pos hz, show decide ((-1 : Int) < 0) = true from rfl, cond_true, if_neg (show ¬ ((z + 2 : Nat) : Int) < ln s from by unfold ln; omega)]
        obtain ⟨k, rfl⟩ : ∃ k, kk = k + 1 := ⟨kk - 1, by omega⟩
        refine ⟨s.length, true, rfl, ?_, by omega, Nat.le_refl _, hend _ (Nat.le_refl _), ?_, fun _ => rfl⟩
        · rw [show ln s = ((s.length : Nat) : Int) from rfl, r02_Past_L1, has2 47 42 s s.length hs (Nat.le_refl _), Option.bind_some, show at2 (47 : UInt8).toNat (42 : UInt8).toNat s s.length = false from hend _ (Nat.le_refl _), cond_false]
        · subst hz; exact .last h z2
      · have hf := z2.fin.resolve_left hz
        have hz2 := at2_lt hf
        rw [if_neg hz, show decide (((z - (i + 2) : Nat) : Int) < 0) = false from decide_eq_false (by omega), cond_false]
        have hw2 : w64 ((i : Int) + w64 (((z - (i + 2) : Nat) : Int) + 4)) = ((z + 2 : Nat) : Int) := by
          rw [w64_id (x := ((z - (i + 2) : Nat) : Int) + 4) (by omega) (by omega), w64_id (by omega) (by omega)]; omega
        have hif : (if ((z + 2 : Nat) : Int) < ln s then ((z + 2 : Nat) : Int) else ln s) = ((z + 2 : Nat) : Int) := by
          unfold ln
          by_cases hq : ((z + 2 : Nat) : Int) < (s.length : Int)
          · rw [if_pos hq]
          · rw [if_neg hq]; omega
        rw [hw2, hif]
        obtain ⟨j, b, f1, f2, f3, f4, f5, f6, f7⟩ := ih (z + 2) (by omega) hz2
        exact ⟨j, b, f1, f2, by omega, f4, f5, .more h z2 hf f6, f7⟩
theorem past_eq (m : Nat) (s : Str) (hs : s.length < 100000) (hm : s.length + 1 < m) (i : Nat) (hi : i ≤ s.length) :
    ∃ (j : Nat) (b : Bool), token_scanner_comments m s (i : Int) = some (j : Int) ∧ r02_Past m s (i : Int) = some (j : Int) ∧ i ≤ j ∧ j ≤ s.length ∧ at2 47 42 s j = false ∧ Com s b i j ∧ (b = true → j = s.length) := by
  obtain ⟨j, b, f1, f2, f3⟩ := comm_eq m s hs (by omega) m i (by omega) hi
  refine ⟨j, b, f1, ?_, f3⟩
  unfold r02_Past
  rw [f2]; rfl
end Go.Proofs.YtfancfogkhclfaaGreatDoor

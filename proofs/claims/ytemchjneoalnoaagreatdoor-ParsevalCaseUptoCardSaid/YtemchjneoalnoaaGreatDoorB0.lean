/-
 The table of properties, and what a property has: both readers. No program in sight.
-/
import Derived.Test.YtemchjneoalnoaaGreatDoorA11
set_option linter.unusedVariables false
set_option maxRecDepth 100000
namespace Go.V
def scanO (t : Int → Bool) : Nat → Nat → Option Int
 | 0, _ => none
 | k + 1, i => cond (t i) (some (i : Int)) (scanO t k (i + 1))
theorem scan_chk {β : Type} {i N : Int} {X Y : Option β} (hi : 0 ≤ i) : cond (decide (i < N)) (chk (0 ≤ i ∧ i < N) X) Y = cond (decide (i < N)) X Y := by
 by_cases h : i < N
 ·rw [chk_pos ⟨hi, h⟩]
 ·rw [decide_eq_false h]; rfl
theorem scan_of {β : Type} (F : Nat → Int → Option β) (t : Int → Bool) (hit : Int → β) (miss : β) (N : Int) (n : Nat) (hN : N = n) (hn : n < 4611686018427387904)
  (hF : ∀ kk (i : Int), 0 ≤ i → F (kk + 1) i = cond (decide (i < N)) (cond (t i) (some (hit i)) (F kk (w64 (i + 1)))) (some miss)) :
  ∀ (k i kk : Nat), k = n - i → i ≤ n → k < kk → F kk (i : Int) = some (((scanO t k i).map hit).getD miss) := by
 subst hN
 intro k
 induction k with
 | zero =>
  intro i kk hk hi hkk
  obtain ⟨kk, rfl⟩ : ∃ q, kk = q + 1 := ⟨kk - 1, by omega⟩
  rw [hF kk i (by omega)]
  have : decide ((i : Int) < n) = false := decide_eq_false (by omega)
  rw [this]
  rfl
 | succ k ih =>
  intro i kk hk hi hkk
  obtain ⟨kk, rfl⟩ : ∃ q, kk = q + 1 := ⟨kk - 1, by omega⟩
  rw [hF kk i (by omega)]
  have : decide ((i : Int) < n) = true := decide_eq_true (by omega)
  rw [this, w64_ix (by omega)]
  simp only [cond_true]
  rw [scanO]
  cases t i
  ·simp only [cond_false]
   exact ih (i + 1) kk (by omega) (by omega) (by omega)
  ·rfl
theorem scanO_ge (t : Int → Bool) : ∀ (k i : Nat) (r : Int), scanO t k i = some r → (i : Int) ≤ r ∧ r < (i + k : Nat)
 | 0, _, _, h => by cases h
 | k + 1, i, r, h => by
  rw [scanO] at h
  cases ht : t i <;> rw [ht] at h
  ·have := scanO_ge t k (i + 1) r h
   omega
  ·cases h
   omega
end Go.V
namespace Go.Proofs.YtemchjneoalnoaaGreatDoor
open Go Go.V Go.RowKit
def tab : List TProp := (props_Table 64).getD []
theorem tab_p : props_Table 64 = some tab := by kernel_rfl
theorem tab_ln : ln tab = ((18 : Nat) : Int) := by kernel_rfl
theorem clamp_eq (n L : Int) (hL : 0 < L) : (n == if -L < if n < L then n else L then if n < L then n else L else -L) = !(cond (decide (L < n)) true (decide (n < -L))) := by
 by_cases h1 : n < L
 ·rw [if_pos h1, decide_eq_false (show ¬ L < n from by omega)]
  by_cases h2 : -L < n
  ·rw [if_pos h2, decide_eq_false (show ¬ n < -L from by omega)]; simp
  ·rw [if_neg h2]
   by_cases h3 : n < -L
   ·rw [decide_eq_true h3, beq_eq_false_iff_ne.2 (show n ≠ -L from by omega)]; rfl
   ·rw [decide_eq_false h3, show n = -L from by omega]; simp
 ·rw [if_neg h1]
  by_cases h3 : L < n
  ·rw [decide_eq_true h3, if_pos (show -L < L from by omega), beq_eq_false_iff_ne.2 (show n ≠ L from by omega)]; rfl
  ·rw [decide_eq_false h3, if_pos (show -L < L from by omega), decide_eq_false (show ¬ n < -L from by omega), show n = L from by omega]; simp
theorem zero_rng (n L : Int) (hL : 0 < L) (h : (n == 0) = true) : decide (L < n) = false ∧ decide (n < -L) = false := by
 have : n = 0 := by simpa using h
 subst this
 exact ⟨decide_eq_false (by omega), decide_eq_false (by omega)⟩
theorem w12 : w64 (0 - 1000000000000) = -1000000000000 := by decide
theorem w12m : w64 (-1000000000000) = -1000000000000 := by decide
theorem w9 : w64 (0 - 1000000000) = -1000000000 := by decide
theorem w9' : w64 (Int.tdiv 1000000000000 1000) = 1000000000 := by decide
theorem check_eq (v : TVal) : props_Check v = r25_Check v := by
 obtain ⟨k, w, n, ⟨r, g, b, a⟩⟩ := v
 unfold props_Check r25_Check
 simp only [w9']
 by_cases h1 : k = 1
 ·subst h1
  cases hn : (n == 0)
  ·simp only [show ((1 : Int) == 2) = false from rfl, show ((1 : Int) == 3) = false from rfl, show ((1 : Int) == 4) = false from rfl, show ((1 : Int) == 5) = false from rfl, show ((1 : Int) == 6) = false from rfl, show ((1 : Int) == 7) = false from rfl, show ((1 : Int) == 8) = false from rfl, sumK, Option.bind_some, beq_self_eq_true, cond_true, cond_false, Bool.true_and, Bool.and_true, lt, hn]
   cases hw : (w == ([] : Str)) <;> simp [hn, w12m]
  ·obtain ⟨z1, z2⟩ := zero_rng n 1000000000000 (by decide) hn
   simp only [show ((1 : Int) == 2) = false from rfl, show ((1 : Int) == 3) = false from rfl, show ((1 : Int) == 4) = false from rfl, show ((1 : Int) == 5) = false from rfl, show ((1 : Int) == 6) = false from rfl, show ((1 : Int) == 7) = false from rfl, show ((1 : Int) == 8) = false from rfl, sumK, Option.bind_some, beq_self_eq_true, cond_true, cond_false, Bool.true_and, Bool.and_true, lt, hn]
   cases hw : (w == ([] : Str)) <;> simp [hn, z1, z2, w12m]
 by_cases h2 : k = 2
 ·subst h2; clear h1
  simp only [show ((2 : Int) == 1) = false from rfl, show ((2 : Int) == 3) = false from rfl, show ((2 : Int) == 4) = false from rfl, show ((2 : Int) == 5) = false from rfl, show ((2 : Int) == 6) = false from rfl, show ((2 : Int) == 7) = false from rfl, show ((2 : Int) == 8) = false from rfl, sumK, Option.bind_some, beq_self_eq_true, cond_true, cond_false, Bool.true_and, Bool.and_true, lt, w12]
  rw [clamp_eq n _ (by decide)]
  generalize (w == []) = x
  generalize decide (1000000000000 < n) = p
  generalize decide (n < -1000000000000) = q
  generalize (r == 0 && (g == 0 && (b == 0 && a == 0))) = y
  cases x <;> cases y <;> cases p <;> cases q <;> rfl
 by_cases h3 : k = 3
 ·subst h3; clear h1 h2
  simp only [show ((3 : Int) == 1) = false from rfl, show ((3 : Int) == 2) = false from rfl, show ((3 : Int) == 4) = false from rfl, show ((3 : Int) == 5) = false from rfl, show ((3 : Int) == 6) = false from rfl, show ((3 : Int) == 7) = false from rfl, show ((3 : Int) == 8) = false from rfl, sumK, Option.bind_some, beq_self_eq_true, cond_true, cond_false, Bool.true_and, Bool.and_true, lt, w12]
  rw [clamp_eq n _ (by decide)]
  generalize (w == []) = x
  generalize decide (1000000000000 < n) = p
  generalize decide (n < -1000000000000) = q
  generalize (r == 0 && (g == 0 && (b == 0 && a == 0))) = y
  cases x <;> cases y <;> cases p <;> cases q <;> rfl
 by_cases h4 : k = 4
 ·subst h4; clear h1 h2 h3
  simp only [show ((4 : Int) == 1) = false from rfl, show ((4 : Int) == 2) = false from rfl, show ((4 : Int) == 3) = false from rfl, show ((4 : Int) == 5) = false from rfl, show ((4 : Int) == 6) = false from rfl, show ((4 : Int) == 7) = false from rfl, show ((4 : Int) == 8) = false from rfl, sumK, Option.bind_some, beq_self_eq_true, cond_true, cond_false, Bool.true_and, Bool.and_true, lt, w12]
  rw [clamp_eq n _ (by decide)]
  generalize (w == []) = x
  generalize decide (1000000000000 < n) = p
  generalize decide (n < -1000000000000) = q
  generalize (r == 0 && (g == 0 && (b == 0 && a == 0))) = y
  cases x <;> cases y <;> cases p <;> cases q <;> rfl
 by_cases h5 : k = 5
 ·subst h5; clear h1 h2 h3 h4
  simp only [show ((5 : Int) == 1) = false from rfl, show ((5 : Int) == 2) = false from rfl, show ((5 : Int) == 3) = false from rfl, show ((5 : Int) == 4) = false from rfl, show ((5 : Int) == 6) = false from rfl, show ((5 : Int) == 7) = false from rfl, show ((5 : Int) == 8) = false from rfl, sumK, Option.bind_some, beq_self_eq_true, cond_true, cond_false, Bool.true_and, Bool.and_true, lt, w12]
  rw [clamp_eq n _ (by decide)]
  generalize (w == []) = x
  generalize decide (1000000000000 < n) = p
  generalize decide (n < -1000000000000) = q
  generalize (r == 0 && (g == 0 && (b == 0 && a == 0))) = y
  cases x <;> cases y <;> cases p <;> cases q <;> rfl
 by_cases h6 : k = 6
 ·subst h6; clear h1 h2 h3 h4 h5
  simp only [show ((6 : Int) == 1) = false from rfl, show ((6 : Int) == 2) = false from rfl, show ((6 : Int) == 3) = false from rfl, show ((6 : Int) == 4) = false from rfl, show ((6 : Int) == 5) = false from rfl, show ((6 : Int) == 7) = false from rfl, show ((6 : Int) == 8) = false from rfl, sumK, Option.bind_some, beq_self_eq_true, cond_true, cond_false, Bool.true_and, Bool.and_true, lt, w9]
  rw [clamp_eq n _ (by decide)]
  generalize (w == []) = x
  generalize decide (1000000000 < n) = p
  generalize decide (n < -1000000000) = q
  generalize (r == 0 && (g == 0 && (b == 0 && a == 0))) = y
  cases x <;> cases y <;> cases p <;> cases q <;> rfl
 by_cases h7 : k = 7
 ·subst h7; clear h1 h2 h3 h4 h5 h6
  cases hn : (n == 0)
  ·simp only [show ((7 : Int) == 1) = false from rfl, show ((7 : Int) == 2) = false from rfl, show ((7 : Int) == 3) = false from rfl, show ((7 : Int) == 4) = false from rfl, show ((7 : Int) == 5) = false from rfl, show ((7 : Int) == 6) = false from rfl, show ((7 : Int) == 8) = false from rfl, sumK, Option.bind_some, beq_self_eq_true, cond_true, cond_false, Bool.true_and, Bool.and_true, lt, w12, hn]
   cases hw : (w == ([] : Str)) <;> simp []
  ·obtain ⟨z1, z2⟩ := zero_rng n 1000000000000 (by decide) hn
   simp only [show ((7 : Int) == 1) = false from rfl, show ((7 : Int) == 2) = false from rfl, show ((7 : Int) == 3) = false from rfl, show ((7 : Int) == 4) = false from rfl, show ((7 : Int) == 5) = false from rfl, show ((7 : Int) == 6) = false from rfl, show ((7 : Int) == 8) = false from rfl, sumK, Option.bind_some, beq_self_eq_true, cond_true, cond_false, Bool.true_and, Bool.and_true, lt, w12, hn, z1, z2]
   cases hw : (w == ([] : Str)) <;> simp []
 by_cases h8 : k = 8
 ·subst h8; clear h1 h2 h3 h4 h5 h6 h7
  cases hn : (n == 0)
  ·simp only [show ((8 : Int) == 1) = false from rfl, show ((8 : Int) == 2) = false from rfl, show ((8 : Int) == 3) = false from rfl, show ((8 : Int) == 4) = false from rfl, show ((8 : Int) == 5) = false from rfl, show ((8 : Int) == 6) = false from rfl, show ((8 : Int) == 7) = false from rfl, sumK, Option.bind_some, beq_self_eq_true, cond_true, cond_false, Bool.true_and, Bool.and_true, lt, w12, hn]
   cases hw : (w == ([] : Str)) <;> simp []
  ·obtain ⟨z1, z2⟩ := zero_rng n 1000000000000 (by decide) hn
   simp only [show ((8 : Int) == 1) = false from rfl, show ((8 : Int) == 2) = false from rfl, show ((8 : Int) == 3) = false from rfl, show ((8 : Int) == 4) = false from rfl, show ((8 : Int) == 5) = false from rfl, show ((8 : Int) == 6) = false from rfl, show ((8 : Int) == 7) = false from rfl, sumK, Option.bind_some, beq_self_eq_true, cond_true, cond_false, Bool.true_and, Bool.and_true, lt, w12, hn, z1, z2]
   cases hw : (w == ([] : Str)) <;> simp []
 have f : ∀ j : Int, k ≠ j → (k == j) = false := fun j h => beq_eq_false_iff_ne.2 h
 simp only [f _ h1, f _ h2, f _ h3, f _ h4, f _ h5, f _ h6, f _ h7, f _ h8, sumK, Option.bind_some, beq_self_eq_true, cond_false, Bool.true_and, Bool.and_true, lt]
theorem check_some (v : TVal) : ∃ e, props_Check v = some e ∧ r25_Check v = some e := by
 suffices h : ∃ e, r25_Check v = some e by
  obtain ⟨e, he⟩ := h
  exact ⟨e, (check_eq v).trans he, he⟩
 obtain ⟨k, w, n, ⟨r, g, b, a⟩⟩ := v
 unfold r25_Check
 simp only [lt]
 have f : ∀ (c : Bool) (x y : Int), ∃ e, (cond c (some x) (some y)) = some e := fun c x y => by cases c; exact ⟨y, rfl⟩; exact ⟨x, rfl⟩
 cases (k == 1) <;> cases (w == ([] : Str)) <;> cases (k == 2) <;> cases (k == 3) <;> cases (k == 4) <;> cases (k == 5) <;> cases (k == 6) <;> cases (k == 7) <;> cases (k == 8) <;> first | exact f _ _ _ | exact ⟨_, rfl⟩
theorem words_lt : (tab.all fun p => decide (p.Words.length < 60) && decide (p.Kinds.length < 60) && !(p.Kinds.contains 1)) = true := by kernel_rfl
theorem gi_mem {prop : Int} (h : 0 ≤ prop ∧ prop < ln tab) : gi tab prop ∈ tab := by
 obtain ⟨i, rfl⟩ : ∃ i : Nat, prop = i := ⟨prop.toNat, by omega⟩
 have hi : i < tab.length := by unfold ln at h; omega
 rw [gi_nat _ _ hi]
 exact List.getElem_mem _
theorem cont_s (l : List Str) (x : Str) (h : l.length < 60) : slices_Contains_string_string 64 l x = some (scanO (fun i => x == gi l i) l.length 0).isSome := by
 have h1 := scan_of (slices_Index_string_string_L1 64 l x) (fun i => x == gi l i) (fun i => Sum.inl i) (Sum.inr ()) (ln l) l.length rfl (by omega)
  (fun kk i hi => by rw [slices_Index_string_string_L1]; exact scan_chk hi) l.length 0 64 rfl (by omega) (by omega)
 unfold slices_Contains_string_string slices_Index_string_string
 rw [show (0 : Int) = ((0 : Nat) : Int) from rfl, h1]
 cases hf : scanO (fun i => x == gi l i) l.length 0 with
 | none => rfl
 | some r =>
  have h0 := scanO_ge _ _ _ _ hf
  have h2 : decide (((0 : Nat) : Int) ≤ r) = true := decide_eq_true (by omega)
  show some (decide (((0 : Nat) : Int) ≤ r)) = _
  rw [h2]
  rfl
theorem cont_i (l : List Int) (x : Int) (h : l.length < 60) : slices_Contains_uint8_uint8 64 l x = some (scanO (fun i => x == gi l i) l.length 0).isSome := by
 have h1 := scan_of (slices_Index_uint8_uint8_L1 64 l x) (fun i => x == gi l i) (fun i => Sum.inl i) (Sum.inr ()) (ln l) l.length rfl (by omega)
  (fun kk i hi => by rw [slices_Index_uint8_uint8_L1]; exact scan_chk hi) l.length 0 64 rfl (by omega) (by omega)
 unfold slices_Contains_uint8_uint8 slices_Index_uint8_uint8
 rw [show (0 : Int) = ((0 : Nat) : Int) from rfl, h1]
 cases hf : scanO (fun i => x == gi l i) l.length 0 with
 | none => rfl
 | some r =>
  have h0 := scanO_ge _ _ _ _ hf
  have h2 : decide (((0 : Nat) : Int) ≤ r) = true := decide_eq_true (by omega)
  show some (decide (((0 : Nat) : Int) ≤ r)) = _
  rw [h2]
  rfl
def hasW (p : TProp) (w : Str) : Bool := (scanO (fun i => w == gi p.Words i) p.Words.length 0).isSome
def hasK (p : TProp) (v : TVal) : Bool := cond (scanO (fun i => v.Kind == gi p.Kinds i) p.Kinds.length 0).isSome (cond (!p.Least) true (decide (0 ≤ v.Num))) false
def hasA (prop : Int) (v : TVal) (e : Int) : Bool × Int := cond (cond (decide (prop < 0)) true (decide (18 ≤ prop))) (false, 2)
 (cond (e != 0) (false, 0) (cond (v.Kind == 1) (hasW (gi tab prop) v.Word, 0) (hasK (gi tab prop) v, 0)))
theorem rng {prop : Int} (h : cond (decide (prop < 0)) true (decide (18 ≤ prop)) = false) : 0 ≤ prop ∧ prop < ln tab := by
 rw [tab_ln]
 by_cases h1 : prop < 0
 ·rw [decide_eq_true h1] at h; cases h
 ·rw [decide_eq_false h1] at h
  have : ¬ (18 ≤ prop) := of_decide_eq_false h
  omega
theorem lens {prop : Int} (h : 0 ≤ prop ∧ prop < ln tab) : (gi tab prop).Words.length < 60 ∧ (gi tab prop).Kinds.length < 60 ∧ (gi tab prop).Kinds.contains 1 = false := by
 have := List.all_eq_true.1 words_lt _ (gi_mem h)
 simp only [Bool.and_eq_true, decide_eq_true_eq, Bool.not_eq_true'] at this
 exact ⟨this.1.1, this.1.2, this.2⟩
theorem has_p (prop : Int) (v : TVal) (e : Int) (he : props_Check v = some e) : props_Has 64 prop v = some (hasA prop v e) := by
 unfold props_Has hasA
 simp only [lt_eq]
 cases hr : cond (decide (prop < 0)) true (decide (18 ≤ prop))
 ·have h0 := rng hr
  obtain ⟨l1, l2, _⟩ := lens h0
  simp only [cond_false]
  rw [tab_p]
  simp only [Option.bind_some]
  rw [chk_pos h0, he]
  simp only [Option.bind_some]
  cases (e != 0)
  ·simp only [cond_false]
   rw [cont_s _ _ l1, cont_i _ _ l2]
   simp only [Option.bind_some]
   cases (v.Kind == 1) <;> rfl
  ·rfl
 ·rfl
end Go.Proofs.YtemchjneoalnoaaGreatDoor

/-
  Values as text: what is valid, and numbers. No program in sight.
-/
import Derived.Test.YtemchjneoalnoaaDoorVP
import Derived.Test.YtemchjneoalnoaaDoorM
set_option linter.unusedVariables false
set_option maxRecDepth 100000
namespace Go.Proofs.YtemchjneoalnoaaDoor
open Go Go.V Go.RowKit
theorem nat_all {p : Nat → Bool} {N : Nat} (h : ((List.range N).all p) = true) {n : Nat} (hn : n < N) : p n = true := List.all_eq_true.1 h n (List.mem_range.2 hn)
/-! Check -/
theorem clamp_eq (n L : Int) (hL : 0 < L) : (n == if -L < if n < L then n else L then if n < L then n else L else -L) = !(cond (decide (L < n)) true (decide (n < -L))) := by
  by_cases h1 : n < L
  · rw [if_pos h1, decide_eq_false (show ¬ L < n from by omega)]
    by_cases h2 : -L < n
    · rw [if_pos h2, decide_eq_false (show ¬ n < -L from by omega)]; simp
    · rw [if_neg h2]
      by_cases h3 : n < -L
      · rw [decide_eq_true h3, beq_eq_false_iff_ne.2 (show n ≠ -L from by omega)]; rfl
      · rw [decide_eq_false h3, show n = -L from by omega]; simp
  · rw [if_neg h1]
    by_cases h3 : L < n
    · rw [decide_eq_true h3, if_pos (show -L < L from by omega), beq_eq_false_iff_ne.2 (show n ≠ L from by omega)]; rfl
    · rw [decide_eq_false h3, if_pos (show -L < L from by omega), decide_eq_false (show ¬ n < -L from by omega), show n = L from by omega]; simp
theorem zero_rng (n L : Int) (hL : 0 < L) (h : (n == 0) = true) : decide (L < n) = false ∧ decide (n < -L) = false := by
  have : n = 0 := by simpa using h
  subst this
  exact ⟨decide_eq_false (by omega), decide_eq_false (by omega)⟩
theorem w12 : w64 (0 - 1000000000000) = -1000000000000 := by decide
theorem w12m : w64 (-1000000000000) = -1000000000000 := by decide
theorem w9 : w64 (0 - 1000000000) = -1000000000 := by decide
theorem w9' : w64 (Int.tdiv 1000000000000 1000) = 1000000000 := by decide
theorem check_eq (v : TVal) : props_Check v = r25_Check v := by
  obtain ⟨k, w, n, ⟨r, g, b, a⟩⟩ := v
  unfold props_Check r25_Check
  simp only [w9']
  by_cases h1 : k = 1
  · subst h1
    cases hn : (n == 0)
    · simp only [show ((1 : Int) == 2) = false from rfl, show ((1 : Int) == 3) = false from rfl, show ((1 : Int) == 4) = false from rfl, show ((1 : Int) == 5) = false from rfl, show ((1 : Int) == 6) = false from rfl, show ((1 : Int) == 7) = false from rfl, show ((1 : Int) == 8) = false from rfl, sumK, Option.bind_some, beq_self_eq_true, cond_true, cond_false, Bool.true_and, Bool.and_true, lt, hn]
      cases hw : (w == ([] : Str)) <;> simp [hn, w12m]
    · obtain ⟨z1, z2⟩ := zero_rng n 1000000000000 (by decide) hn
      simp only [show ((1 : Int) == 2) = false from rfl, show ((1 : Int) == 3) = false from rfl, show ((1 : Int) == 4) = false from rfl, show ((1 : Int) == 5) = false from rfl, show ((1 : Int) == 6) = false from rfl, show ((1 : Int) == 7) = false from rfl, show ((1 : Int) == 8) = false from rfl, sumK, Option.bind_some, beq_self_eq_true, cond_true, cond_false, Bool.true_and, Bool.and_true, lt, hn]
      cases hw : (w == ([] : Str)) <;> simp [hn, z1, z2, w12m]
  by_cases h2 : k = 2
  · subst h2; clear h1
    simp only [show ((2 : Int) == 1) = false from rfl, show ((2 : Int) == 3) = false from rfl, show ((2 : Int) == 4) = false from rfl, show ((2 : Int) == 5) = false from rfl, show ((2 : Int) == 6) = false from rfl, show ((2 : Int) == 7) = false from rfl, show ((2 : Int) == 8) = false from rfl, sumK, Option.bind_some, beq_self_eq_true, cond_true, cond_false, Bool.true_and, Bool.and_true, lt, w12]
    rw [clamp_eq n _ (by decide)]
    generalize (w == []) = x
    generalize decide (1000000000000 < n) = p
    generalize decide (n < -1000000000000) = q
    generalize (r == 0 && (g == 0 && (b == 0 && a == 0))) = y
    cases x <;> cases y <;> cases p <;> cases q <;> rfl
  by_cases h3 : k = 3
  · subst h3; clear h1 h2
    simp only [show ((3 : Int) == 1) = false from rfl, show ((3 : Int) == 2) = false from rfl, show ((3 : Int) == 4) = false from rfl, show ((3 : Int) == 5) = false from rfl, show ((3 : Int) == 6) = false from rfl, show ((3 : Int) == 7) = false from rfl, show ((3 : Int) == 8) = false from rfl, sumK, Option.bind_some, beq_self_eq_true, cond_true, cond_false, Bool.true_and, Bool.and_true, lt, w12]
    rw [clamp_eq n _ (by decide)]
    generalize (w == []) = x
    generalize decide (1000000000000 < n) = p
    generalize decide (n < -1000000000000) = q
    generalize (r == 0 && (g == 0 && (b == 0 && a == 0))) = y
    cases x <;> cases y <;> cases p <;> cases q <;> rfl
  by_cases h4 : k = 4
  · subst h4; clear h1 h2 h3
    simp only [show ((4 : Int) == 1) = false from rfl, show ((4 : Int) == 2) = false from rfl, show ((4 : Int) == 3) = false from rfl, show ((4 : Int) == 5) = false from rfl, show ((4 : Int) == 6) = false from rfl, show ((4 : Int) == 7) = false from rfl, show ((4 : Int) == 8) = false from rfl, sumK, Option.bind_some, beq_self_eq_true, cond_true, cond_false, Bool.true_and, Bool.and_true, lt, w12]
    rw [clamp_eq n _ (by decide)]
    generalize (w == []) = x
    generalize decide (1000000000000 < n) = p
    generalize decide (n < -1000000000000) = q
    generalize (r == 0 && (g == 0 && (b == 0 && a == 0))) = y
    cases x <;> cases y <;> cases p <;> cases q <;> rfl
  by_cases h5 : k = 5
  · subst h5; clear h1 h2 h3 h4
    simp only [show ((5 : Int) == 1) = false from rfl, show ((5 : Int) == 2) = false from rfl, show ((5 : Int) == 3) = false from rfl, show ((5 : Int) == 4) = false from rfl, show ((5 : Int) == 6) = false from rfl, show ((5 : Int) == 7) = false from rfl, show ((5 : Int) == 8) = false from rfl, sumK, Option.bind_some, beq_self_eq_true, cond_true, cond_false, Bool.true_and, Bool.and_true, lt, w12]
    rw [clamp_eq n _ (by decide)]
    generalize (w == []) = x
    generalize decide (1000000000000 < n) = p
    generalize decide (n < -1000000000000) = q
    generalize (r == 0 && (g == 0 && (b == 0 && a == 0))) = y
    cases x <;> cases y <;> cases p <;> cases q <;> rfl
  by_cases h6 : k = 6
  · subst h6; clear h1 h2 h3 h4 h5
    simp only [show ((6 : Int) == 1) = false from rfl, show ((6 : Int) == 2) = false from rfl, show ((6 : Int) == 3) = false from rfl, show ((6 : Int) == 4) = false from rfl, show ((6 : Int) == 5) = false from rfl, show ((6 : Int) == 7) = false from rfl, show ((6 : Int) == 8) = false from rfl, sumK, Option.bind_some, beq_self_eq_true, cond_true, cond_false, Bool.true_and, Bool.and_true, lt, w9]
    rw [clamp_eq n _ (by decide)]
    generalize (w == []) = x
    generalize decide (1000000000 < n) = p
    generalize decide (n < -1000000000) = q
    generalize (r == 0 && (g == 0 && (b == 0 && a == 0))) = y
    cases x <;> cases y <;> cases p <;> cases q <;> rfl
  by_cases h7 : k = 7
  · subst h7; clear h1 h2 h3 h4 h5 h6
    cases hn : (n == 0)
    · simp only [show ((7 : Int) == 1) = false from rfl, show ((7 : Int) == 2) = false from rfl, show ((7 : Int) == 3) = false from rfl, show ((7 : Int) == 4) = false from rfl, show ((7 : Int) == 5) = false from rfl, show ((7 : Int) == 6) = false from rfl, show ((7 : Int) == 8) = false from rfl, sumK, Option.bind_some, beq_self_eq_true, cond_true, cond_false, Bool.true_and, Bool.and_true, lt, w12, hn]
      cases hw : (w == ([] : Str)) <;> simp []
    · obtain ⟨z1, z2⟩ := zero_rng n 1000000000000 (by decide) hn
      simp only [show ((7 : Int) == 1) = false from rfl, show ((7 : Int) == 2) = false from rfl, show ((7 : Int) == 3) = false from rfl, show ((7 : Int) == 4) = false from rfl, show ((7 : Int) == 5) = false from rfl, show ((7 : Int) == 6) = false from rfl, show ((7 : Int) == 8) = false from rfl, sumK, Option.bind_some, beq_self_eq_true, cond_true, cond_false, Bool.true_and, Bool.and_true, lt, w12, hn, z1, z2]
      cases hw : (w == ([] : Str)) <;> simp []
  by_cases h8 : k = 8
  · subst h8; clear h1 h2 h3 h4 h5 h6 h7
    cases hn : (n == 0)
    · simp only [show ((8 : Int) == 1) = false from rfl, show ((8 : Int) == 2) = false from rfl, show ((8 : Int) == 3) = false from rfl, show ((8 : Int) == 4) = false from rfl, show ((8 : Int) == 5) = false from rfl, show ((8 : Int) == 6) = false from rfl, show ((8 : Int) == 7) = false from rfl, sumK, Option.bind_some, beq_self_eq_true, cond_true, cond_false, Bool.true_and, Bool.and_true, lt, w12, hn]
      cases hw : (w == ([] : Str)) <;> simp []
    · obtain ⟨z1, z2⟩ := zero_rng n 1000000000000 (by decide) hn
      simp only [show ((8 : Int) == 1) = false from rfl, show ((8 : Int) == 2) = false from rfl, show ((8 : Int) == 3) = false from rfl, show ((8 : Int) == 4) = false from rfl, show ((8 : Int) == 5) = false from rfl, show ((8 : Int) == 6) = false from rfl, show ((8 : Int) == 7) = false from rfl, sumK, Option.bind_some, beq_self_eq_true, cond_true, cond_false, Bool.true_and, Bool.and_true, lt, w12, hn, z1, z2]
      cases hw : (w == ([] : Str)) <;> simp []
  have f : ∀ j : Int, k ≠ j → (k == j) = false := fun j h => beq_eq_false_iff_ne.2 h
  simp only [f _ h1, f _ h2, f _ h3, f _ h4, f _ h5, f _ h6, f _ h7, f _ h8, sumK, Option.bind_some, beq_self_eq_true, cond_false, Bool.true_and, Bool.and_true, lt]
theorem check_some (v : TVal) : ∃ e, props_Check v = some e ∧ r25_Check v = some e := by
  suffices h : ∃ e, r25_Check v = some e by
    obtain ⟨e, he⟩ := h
    exact ⟨e, (check_eq v).trans he, he⟩
  obtain ⟨k, w, n, ⟨r, g, b, a⟩⟩ := v
  unfold r25_Check
  simp only [lt]
  have f : ∀ (c : Bool) (x y : Int), ∃ e, (cond c (some x) (some y)) = some e := fun c x y => by cases c; exact ⟨y, rfl⟩; exact ⟨x, rfl⟩
  cases (k == 1) <;> cases (w == ([] : Str)) <;> cases (k == 2) <;> cases (k == 3) <;> cases (k == 4) <;> cases (k == 5) <;> cases (k == 6) <;> cases (k == 7) <;> cases (k == 8) <;> first | exact f _ _ _ | exact ⟨_, rfl⟩
/-- What a valid value has. -/
theorem check_num (v : TVal) (h : r25_Check v = some 0) : v.Kind = 1 ∨ v.Kind = 7 ∨ v.Kind = 8 ∨ (v.Kind = 6 ∧ -1000000000 ≤ v.Num ∧ v.Num ≤ 1000000000) ∨ ((v.Kind = 2 ∨ v.Kind = 3 ∨ v.Kind = 4 ∨ v.Kind = 5) ∧ -1000000000000 ≤ v.Num ∧ v.Num ≤ 1000000000000) := by
  obtain ⟨k, w, n, ⟨r, g, b, a⟩⟩ := v
  unfold r25_Check at h
  have fin : ∀ (L : Int) (x : Bool), 0 < L → cond (cond (cond x true (decide (L < n))) true (decide (n < w64 (0 - L)))) (some (8 : Int)) (some 0) = some 0 → w64 (0 - L) = -L → -L ≤ n ∧ n ≤ L := fun L x _ hc hw => by
    rw [hw] at hc
    cases x with
    | true => cases hc
    | false =>
      by_cases h1 : L < n
      · rw [decide_eq_true h1] at hc; cases hc
      · by_cases h2 : n < -L
        · rw [decide_eq_true h2, decide_eq_false h1] at hc; cases hc
        · omega
  by_cases h1 : k = 1
  · exact Or.inl h1
  by_cases h7 : k = 7
  · exact Or.inr (Or.inl h7)
  by_cases h8 : k = 8
  · exact Or.inr (Or.inr (Or.inl h8))
  by_cases h6 : k = 6
  · subst h6
    exact Or.inr (Or.inr (Or.inr (Or.inl ⟨rfl, fin 1000000000 _ (by decide) h (by decide)⟩)))
  by_cases h2 : k = 2
  · subst h2
    exact Or.inr (Or.inr (Or.inr (Or.inr ⟨Or.inl rfl, fin 1000000000000 _ (by decide) h (by decide)⟩)))
  by_cases h3 : k = 3
  · subst h3
    exact Or.inr (Or.inr (Or.inr (Or.inr ⟨Or.inr (Or.inl rfl), fin 1000000000000 _ (by decide) h (by decide)⟩)))
  by_cases h4 : k = 4
  · subst h4
    exact Or.inr (Or.inr (Or.inr (Or.inr ⟨Or.inr (Or.inr (Or.inl rfl)), fin 1000000000000 _ (by decide) h (by decide)⟩)))
  by_cases h5 : k = 5
  · subst h5
    exact Or.inr (Or.inr (Or.inr (Or.inr ⟨Or.inr (Or.inr (Or.inr rfl)), fin 1000000000000 _ (by decide) h (by decide)⟩)))
  have f : ∀ j : Int, k ≠ j → (k == j) = false := fun j h => beq_eq_false_iff_ne.2 h
  simp only [f _ h1, f _ h2, f _ h3, f _ h4, f _ h5, f _ h6, f _ h7, f _ h8, sumK, Option.bind_some, cond_false] at h
  cases h
/-! ## Numbers -/
theorem dd_small {u : Nat} (h : u < 10) : Lib.decDigits u = [UInt8.ofNat (48 + u)] := by rw [Lib.decDigits, dif_pos h]
theorem dd_big {u : Nat} (h : ¬ u < 10) : Lib.decDigits u = Lib.decDigits (u / 10) ++ [UInt8.ofNat (48 + u % 10)] := by rw [Lib.decDigits, dif_neg h]
theorem dd_len : ∀ (k u : Nat), u < 10 ^ (k + 1) → (Lib.decDigits u).length ≤ k + 1
  | 0, u, h => by rw [dd_small (by simpa using h)]; simp
  | k + 1, u, h => by
    by_cases hu : u < 10
    · rw [dd_small hu]; simp
    · rw [dd_big hu, List.length_append]
      have := dd_len k (u / 10) (by rw [Nat.pow_succ] at h; omega)
      simp only [List.length_cons, List.length_nil]; omega
theorem dig_all : ((List.range 10).all fun d => toB ([wu8 (w64 (48 + (d : Int)))] : List Int) == [UInt8.ofNat (48 + d)]) = true := by kernel_rfl
theorem dig_at {d : Nat} (h : d < 10) : toB ([wu8 (w64 (48 + (d : Int)))] : List Int) = [UInt8.ofNat (48 + d)] := eq_of_beq (nat_all dig_all h)
theorem whole_nat (m : Nat) : ∀ (k K u : Nat), u < 10 ^ (k + 1) → k < 18 → k + 1 ≤ K → r26_whole_r m K (u : Int) = some (Lib.decDigits u) := by
  intro k
  induction k with
  | zero =>
    intro K u hu _ hK
    obtain ⟨K, rfl⟩ : ∃ q, K = q + 1 := ⟨K - 1, by omega⟩
    have hu : u < 10 := by simpa using hu
    rw [r26_whole_r, show decide ((u : Int) < 10) = true from decide_eq_true (by omega), cond_true, dig_at hu, dd_small hu]
  | succ k ih =>
    intro K u hu hk hK
    obtain ⟨K, rfl⟩ : ∃ q, K = q + 1 := ⟨K - 1, by omega⟩
    have hp : 10 ^ (k + 1) ≤ 10 ^ 17 := Nat.pow_le_pow_right (by decide) (by omega)
    have hu2 : u < 1000000000000000000 := by rw [Nat.pow_succ] at hu; omega
    rw [r26_whole_r]
    by_cases h10 : u < 10
    · rw [show decide ((u : Int) < 10) = true from decide_eq_true (by omega), cond_true, dig_at h10, dd_small h10]
    · have hm : Int.tmod (u : Int) 10 = ((u % 10 : Nat) : Int) := by rw [tmod_pos (by omega)]; omega
      have hd : w64 (Int.tdiv (u : Int) 10) = ((u / 10 : Nat) : Int) := by rw [tdiv_pos (by omega), w64_id (by omega) (by omega)]; omega
      have hl := dd_len k (u / 10) (by rw [Nat.pow_succ] at hu; omega)
      rw [show decide ((u : Int) < 10) = false from decide_eq_false (by omega), cond_false, hd, ih K (u / 10) (by rw [Nat.pow_succ] at hu; omega) (by omega) (by omega), Option.bind_some, hm, dig_at (by omega), lt_eq, chk_pos (by unfold ln; simp only [List.length_cons, List.length_nil]; omega), dd_big h10]
theorem whole_eq (m : Nat) (hm : 18 < m) (u : Nat) (hu : u < 1000000000000000) : r26_whole m (u : Int) = some (Lib.decDigits u) := whole_nat m 15 m u (by show _ < 10000000000000000; omega) (by decide) (by omega)
theorem x_fi {u : Nat} (hu : u < 1000000000000000) : x_FormatInt10 (u : Int) = some (Lib.decDigits u) := by
  unfold x_FormatInt10
  rw [chk_pos (by omega), itoaS_eq (by omega)]
  unfold Lib.itoa
  rw [if_neg (by omega), Int.toNat_natCast]
theorem x_it {u : Nat} (hu : u < 1000000000000000) : x_Itoa (u : Int) = some (Lib.decDigits u) := by
  unfold x_Itoa
  rw [chk_pos (by omega), itoaS_eq (by omega)]
  unfold Lib.itoa
  rw [if_neg (by omega), Int.toNat_natCast]
/-- A part's figures without the zeros behind, by both. -/
theorem part_all : ((List.range 1000).all fun r => cond (Nat.beq r 0) true (match r26_whole_r 300 30 ((1000 + r : Nat) : Int) with
    | some y => cond (decide (ln y = 4)) (r26_Thousandths_L1 300 299 (sub y 1 (ln y)) == some (Lib.trimRightS (sub y 1 (ln y)) [48])) false
    | none => false)) = true := by kernel_rfl
theorem part_at {r : Nat} (h0 : 0 < r) (h : r < 1000) : ln (Lib.decDigits (1000 + r)) = 4 ∧ r26_Thousandths_L1 300 299 (sub (Lib.decDigits (1000 + r)) 1 (ln (Lib.decDigits (1000 + r)))) = some (Lib.trimRightS (sub (Lib.decDigits (1000 + r)) 1 (ln (Lib.decDigits (1000 + r)))) [48]) := by
  have h1 := nat_all part_all h
  have h2 := whole_nat 300 15 30 (1000 + r) (by show _ < 10000000000000000; omega) (by decide) (by decide)
  rw [show Nat.beq r 0 = false by cases r with | zero => omega | succ r => rfl, cond_false] at h1
  simp only [h2] at h1
  by_cases h4 : ln (Lib.decDigits (1000 + r)) = 4
  · rw [decide_eq_true h4, cond_true] at h1
    exact ⟨h4, eq_of_beq h1⟩
  · rw [decide_eq_false h4] at h1; cases h1
end Go.Proofs.YtemchjneoalnoaaDoor

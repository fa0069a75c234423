/-
  What the walks compute answers as the laws say: the table of properties.
-/
import Derived.Test.YtfcnkhiohnjepaaDoorVP
import Derived.Test.YtfcnkhiohnjepaaDoorW25d
import Derived.Test.YtfcnkhiohnjepaaDoorC
import Derived.KernelRfl
namespace Go.V
/-- The first place from 'i' on, of 'k', where 't' holds. -/
def scanO (t : Int → Bool) : Nat → Nat → Option Int
  | 0, _ => none
  | k + 1, i => cond (t i) (some (i : Int)) (scanO t k (i + 1))
theorem scan_chk {β : Type} {i N : Int} {X Y : Option β} (hi : 0 ≤ i) : cond (decide (i < N)) (chk (0 ≤ i ∧ i < N) X) Y = cond (decide (i < N)) X Y := by
  by_cases h : i < N
  · rw [chk_pos ⟨hi, h⟩]
  · rw [decide_eq_false h]; rfl
theorem scan_of {β : Type} (F : Nat → Int → Option β) (t : Int → Bool) (hit : Int → β) (miss : β) (N : Int) (n : Nat) (hN : N = n) (hn : n < 4611686018427387904)
    (hF : ∀ kk (i : Int), 0 ≤ i → F (kk + 1) i = cond (decide (i < N)) (cond (t i) (some (hit i)) (F kk (w64 (i + 1)))) (some miss)) :
    ∀ (k i kk : Nat), k = n - i → i ≤ n → k < kk → F kk (i : Int) = some (((scanO t k i).map hit).getD miss) := by
  subst hN
  intro k
  induction k with
  | zero =>
    intro i kk hk hi hkk
    obtain ⟨kk, rfl⟩ : ∃ q, kk = q + 1 := ⟨kk - 1, by omega⟩
    rw [hF kk i (by omega)]
    have : decide ((i : Int) < n) = false := decide_eq_false (by omega)
    rw [this]
    rfl
  | succ k ih =>
    intro i kk hk hi hkk
    obtain ⟨kk, rfl⟩ : ∃ q, kk = q + 1 := ⟨kk - 1, by omega⟩
    rw [hF kk i (by omega)]
    have : decide ((i : Int) < n) = true := decide_eq_true (by omega)
    rw [this, w64_ix (by omega)]
    simp only [cond_true]
    rw [scanO]
    cases t i
    · simp only [cond_false]
      exact ih (i + 1) kk (by omega) (by omega) (by omega)
    · rfl
theorem scanO_ge (t : Int → Bool) : ∀ (k i : Nat) (r : Int), scanO t k i = some r → (i : Int) ≤ r ∧ r < (i + k : Nat)
  | 0, _, _, h => by cases h
  | k + 1, i, r, h => by
    rw [scanO] at h
    cases ht : t i <;> rw [ht] at h
    · have := scanO_ge t k (i + 1) r h
      omega
    · cases h
      omega
theorem scanO_none (t : Int → Bool) : ∀ (k i : Nat), (∀ j : Nat, j < k → t ((i + j : Nat) : Int) = false) → scanO t k i = none
  | 0, _, _ => rfl
  | k + 1, i, h => by
    rw [scanO, show t (i : Int) = false from h 0 (by omega)]
    exact scanO_none t k (i + 1) fun j hj => by have := h (j + 1) (by omega); rw [show i + 1 + j = i + (j + 1) from by omega]; exact this
/-- A loop that looks at all. -/
theorem or_of (F : Nat → Bool → Int → Option Bool) (t : Int → Bool) (N : Int) (n : Nat) (hN : N = n) (hn : n < 4611686018427387904)
    (hF : ∀ kk b (i : Int), 0 ≤ i → F (kk + 1) b i = cond (decide (i < N)) (F kk (cond b true (t i)) (w64 (i + 1))) (some b)) :
    ∀ (k i kk : Nat) (b : Bool), k = n - i → i ≤ n → k < kk → F kk b (i : Int) = some (b || (scanO t k i).isSome) := by
  subst hN
  intro k
  induction k with
  | zero =>
    intro i kk b hk hi hkk
    obtain ⟨kk, rfl⟩ : ∃ q, kk = q + 1 := ⟨kk - 1, by omega⟩
    rw [hF kk b i (by omega)]
    have : decide ((i : Int) < n) = false := decide_eq_false (by omega)
    rw [this]
    simp [scanO]
  | succ k ih =>
    intro i kk b hk hi hkk
    obtain ⟨kk, rfl⟩ : ∃ q, kk = q + 1 := ⟨kk - 1, by omega⟩
    rw [hF kk b i (by omega)]
    have : decide ((i : Int) < n) = true := decide_eq_true (by omega)
    rw [this, w64_ix (by omega)]
    simp only [cond_true]
    rw [ih (i + 1) kk _ (by omega) (by omega) (by omega), scanO]
    cases b <;> cases t i <;> simp
theorem beqc {α : Type} [BEq α] [LawfulBEq α] [DecidableEq α] (a b : α) : (a == b) = (b == a) := by
  by_cases h : a = b
  · subst h; rfl
  · rw [beq_eq_false_iff_ne.2 h, beq_eq_false_iff_ne.2 (Ne.symm h)]
end Go.V
namespace Go.Proofs.YtfcnkhiohnjepaaDoor
open Go Go.V
set_option maxRecDepth 100000
theorem plain_PropsNames : law25_PropsNames 64 = some true := by kernel_rfl
def tab : List TProp := (props_Table 64).getD []
theorem tab_p : props_Table 64 = some tab := by kernel_rfl
theorem tab_r : r25_Table = some tab := by kernel_rfl
theorem tab_n : tab.length = 18 := by kernel_rfl
theorem tab_ln : ln tab = ((18 : Nat) : Int) := by kernel_rfl
theorem alive_p : law25_alive 64 = some true := by kernel_rfl

/-! Find -/
def find (s : Str) : Option Int := scanO (fun i => (gi tab i).Name == s) 18 0
def findA (s : Str) : Int × Int := match find s with
  | none => (0, 6)
  | some i => (i, 0)
theorem find_p (s : Str) : props_Find 64 s = some (findA s) := by
  have h := scan_of (slices_IndexFunc_api_Prop_api_Prop_L1 64 tab s) (fun i => (gi tab i).Name == s) (fun i => Sum.inl i) (Sum.inr ()) (ln tab) 18 tab_ln (by decide)
    (fun kk i hi => by rw [slices_IndexFunc_api_Prop_api_Prop_L1]; exact scan_chk hi) 18 0 64 rfl (by decide) (by decide)
  unfold props_Find
  rw [tab_p]
  simp only [Option.bind_some]
  unfold slices_IndexFunc_api_Prop_api_Prop
  rw [show (0 : Int) = ((0 : Nat) : Int) from rfl, h]
  unfold findA find
  cases hf : scanO (fun i => (gi tab i).Name == s) 18 0 with
  | none => rfl
  | some r =>
    have h0 := scanO_ge _ _ _ _ hf
    have h1 : decide (r < 0) = false := decide_eq_false (by omega)
    simp only [Option.map_some, Option.getD_some, Option.bind_some, sumK]
    show cond (decide (r < 0)) _ _ = _
    rw [h1]
    rfl
theorem find_r (s : Str) : r25_Find 64 s = some (findA s) := by
  have h := scan_of (r25_Find_L1 64 s tab) (fun i => (gi tab i).Name == s) (fun i => Sum.inl (i, 0)) (Sum.inr ()) (ln tab) 18 tab_ln (by decide)
    (fun kk i hi => by rw [r25_Find_L1]; exact scan_chk hi) 18 0 64 rfl (by decide) (by decide)
  unfold r25_Find
  rw [tab_r]
  simp only [Option.bind_some]
  rw [show (0 : Int) = ((0 : Nat) : Int) from rfl, h]
  unfold findA find
  cases hf : scanO (fun i => (gi tab i).Name == s) 18 0 with
  | none => rfl
  | some r => rfl
theorem find_lt {s : Str} (h : (findA s).2 = 0) : 0 ≤ (findA s).1 ∧ (findA s).1 < ln tab := by
  rw [tab_ln]
  unfold findA find at h ⊢
  cases hf : scanO (fun i => (gi tab i).Name == s) 18 0 with
  | none => rw [hf] at h; cases h
  | some r =>
    have h0 := scanO_ge _ _ _ _ hf
    show 0 ≤ r ∧ r < _
    omega

/-! Custom, Inherited -/
def cst (s : Str) : Bool := decide (2 < ln s) && decide (ln s ≤ 64) && (sub s 0 2 == [45, 45])
theorem cst_p (s : Str) : props_Custom s = some (cst s) := by
  unfold props_Custom strings_HasPrefix stringslite_HasPrefix
  rw [show ln ([45, 45] : Str) = 2 from rfl, chk_pos (fun h => ⟨by decide, of_decide_eq_true h⟩)]
  simp only [lt_eq, Option.bind_some]
  congr 1
  unfold cst
  by_cases h2 : 2 < ln s
  · have : (2 : Int) ≤ ln s := by omega
    simp [h2, this]
    cases (sub s 0 2 == [45, 45]) <;> simp
  · simp [h2]
theorem cst_r (s : Str) : r25_Custom s = some (cst s) := by
  unfold r25_Custom
  simp only [lt_eq]
  rw [chk_pos (fun h => ⟨by decide, by
    by_cases h2 : 2 < ln s
    · omega
    · rw [decide_eq_false h2] at h; cases h⟩)]
  congr 1
  unfold cst
  cases decide (2 < ln s) <;> cases decide (ln s ≤ 64) <;> rfl
def inh (s : Str) : Bool × Int := cond (cst s) (true, 0) (cond ((findA s).2 != 0) (false, (findA s).2) ((gi tab (findA s).1).Inherited, 0))
theorem inh_p (s : Str) : props_Inherited 64 s = some (inh s) := by
  unfold props_Inherited
  rw [cst_p]
  simp only [Option.bind_some]
  unfold inh
  cases cst s
  · simp only [cond_false]
    rw [find_p]
    simp only [Option.bind_some]
    cases h : ((findA s).2 != 0)
    · simp only [cond_false]
      rw [tab_p]
      simp only [Option.bind_some]
      rw [chk_pos (find_lt (by simpa using h))]
    · rfl
  · rfl
theorem inh_r (s : Str) : r25_Inherited 64 s = some (inh s) := by
  unfold r25_Inherited
  rw [cst_r]
  simp only [Option.bind_some]
  unfold inh
  cases cst s
  · simp only [cond_false]
    rw [find_r]
    simp only [Option.bind_some]
    cases h : ((findA s).2 != 0)
    · simp only [cond_false]
      rw [tab_r]
      simp only [Option.bind_some]
      rw [chk_pos (find_lt (by simpa using h))]
    · rfl
  · rfl
/-! Check -/
theorem clamp_eq (n L : Int) (hL : 0 < L) : (n == if -L < if n < L then n else L then if n < L then n else L else -L) = !(cond (decide (L < n)) true (decide (n < -L))) := by
  by_cases h1 : n < L
  · rw [if_pos h1, decide_eq_false (show ¬ L < n from by omega)]
    by_cases h2 : -L < n
    · rw [if_pos h2, decide_eq_false (show ¬ n < -L from by omega)]; simp
    · rw [if_neg h2]
      by_cases h3 : n < -L
      · rw [decide_eq_true h3, beq_eq_false_iff_ne.2 (show n ≠ -L from by omega)]; rfl
      · rw [decide_eq_false h3, show n = -L from by omega]; simp
  · rw [if_neg h1]
    by_cases h3 : L < n
    · rw [decide_eq_true h3, if_pos (show -L < L from by omega), beq_eq_false_iff_ne.2 (show n ≠ L from by omega)]; rfl
    · rw [decide_eq_false h3, if_pos (show -L < L from by omega), decide_eq_false (show ¬ n < -L from by omega), show n = L from by omega]; simp
theorem zero_rng (n L : Int) (hL : 0 < L) (h : (n == 0) = true) : decide (L < n) = false ∧ decide (n < -L) = false := by
  have : n = 0 := by simpa using h
  subst this
  exact ⟨decide_eq_false (by omega), decide_eq_false (by omega)⟩
theorem w12 : w64 (0 - 1000000000000) = -1000000000000 := by decide
theorem w12m : w64 (-1000000000000) = -1000000000000 := by decide
theorem w9 : w64 (0 - 1000000000) = -1000000000 := by decide
theorem w9' : w64 (Int.tdiv 1000000000000 1000) = 1000000000 := by decide
theorem check_eq (v : TVal) : props_Check v = r25_Check v := by
  obtain ⟨k, w, n, ⟨r, g, b, a⟩⟩ := v
  unfold props_Check r25_Check
  simp only [w9']
  by_cases h1 : k = 1
  · subst h1
    cases hn : (n == 0)
    · simp only [show ((1 : Int) == 2) = false from rfl, show ((1 : Int) == 3) = false from rfl, show ((1 : Int) == 4) = false from rfl, show ((1 : Int) == 5) = false from rfl, show ((1 : Int) == 6) = false from rfl, show ((1 : Int) == 7) = false from rfl, show ((1 : Int) == 8) = false from rfl, sumK, Option.bind_some, beq_self_eq_true, cond_true, cond_false, Bool.true_and, Bool.and_true, lt, hn]
      cases hw : (w == ([] : Str)) <;> simp [hn, w12m]
    · obtain ⟨z1, z2⟩ := zero_rng n 1000000000000 (by decide) hn
      simp only [show ((1 : Int) == 2) = false from rfl, show ((1 : Int) == 3) = false from rfl, show ((1 : Int) == 4) = false from rfl, show ((1 : Int) == 5) = false from rfl, show ((1 : Int) == 6) = false from rfl, show ((1 : Int) == 7) = false from rfl, show ((1 : Int) == 8) = false from rfl, sumK, Option.bind_some, beq_self_eq_true, cond_true, cond_false, Bool.true_and, Bool.and_true, lt, hn]
      cases hw : (w == ([] : Str)) <;> simp [hn, z1, z2, w12m]
  by_cases h2 : k = 2
  · subst h2; clear h1
    simp only [show ((2 : Int) == 1) = false from rfl, show ((2 : Int) == 3) = false from rfl, show ((2 : Int) == 4) = false from rfl, show ((2 : Int) == 5) = false from rfl, show ((2 : Int) == 6) = false from rfl, show ((2 : Int) == 7) = false from rfl, show ((2 : Int) == 8) = false from rfl, sumK, Option.bind_some, beq_self_eq_true, cond_true, cond_false, Bool.true_and, Bool.and_true, lt, w12]
    rw [clamp_eq n _ (by decide)]
    generalize (w == []) = x
    generalize decide (1000000000000 < n) = p
    generalize decide (n < -1000000000000) = q
    generalize (r == 0 && (g == 0 && (b == 0 && a == 0))) = y
    cases x <;> cases y <;> cases p <;> cases q <;> rfl
  by_cases h3 : k = 3
  · subst h3; clear h1 h2
    simp only [show ((3 : Int) == 1) = false from rfl, show ((3 : Int) == 2) = false from rfl, show ((3 : Int) == 4) = false from rfl, show ((3 : Int) == 5) = false from rfl, show ((3 : Int) == 6) = false from rfl, show ((3 : Int) == 7) = false from rfl, show ((3 : Int) == 8) = false from rfl, sumK, Option.bind_some, beq_self_eq_true, cond_true, cond_false, Bool.true_and, Bool.and_true, lt, w12]
    rw [clamp_eq n _ (by decide)]
    generalize (w == []) = x
    generalize decide (1000000000000 < n) = p
    generalize decide (n < -1000000000000) = q
    generalize (r == 0 && (g == 0 && (b == 0 && a == 0))) = y
    cases x <;> cases y <;> cases p <;> cases q <;> rfl
  by_cases h4 : k = 4
  · subst h4; clear h1 h2 h3
    simp only [show ((4 : Int) == 1) = false from rfl, show ((4 : Int) == 2) = false from rfl, show ((4 : Int) == 3) = false from rfl, show ((4 : Int) == 5) = false from rfl, show ((4 : Int) == 6) = false from rfl, show ((4 : Int) == 7) = false from rfl, show ((4 : Int) == 8) = false from rfl, sumK, Option.bind_some, beq_self_eq_true, cond_true, cond_false, Bool.true_and, Bool.and_true, lt, w12]
    rw [clamp_eq n _ (by decide)]
    generalize (w == []) = x
    generalize decide (1000000000000 < n) = p
    generalize decide (n < -1000000000000) = q
    generalize (r == 0 && (g == 0 && (b == 0 && a == 0))) = y
    cases x <;> cases y <;> cases p <;> cases q <;> rfl
  by_cases h5 : k = 5
  · subst h5; clear h1 h2 h3 h4
    simp only [show ((5 : Int) == 1) = false from rfl, show ((5 : Int) == 2) = false from rfl, show ((5 : Int) == 3) = false from rfl, show ((5 : Int) == 4) = false from rfl, show ((5 : Int) == 6) = false from rfl, show ((5 : Int) == 7) = false from rfl, show ((5 : Int) == 8) = false from rfl, sumK, Option.bind_some, beq_self_eq_true, cond_true, cond_false, Bool.true_and, Bool.and_true, lt, w12]
    rw [clamp_eq n _ (by decide)]
    generalize (w == []) = x
    generalize decide (1000000000000 < n) = p
    generalize decide (n < -1000000000000) = q
    generalize (r == 0 && (g == 0 && (b == 0 && a == 0))) = y
    cases x <;> cases y <;> cases p <;> cases q <;> rfl
  by_cases h6 : k = 6
  · subst h6; clear h1 h2 h3 h4 h5
    simp only [show ((6 : Int) == 1) = false from rfl, show ((6 : Int) == 2) = false from rfl, show ((6 : Int) == 3) = false from rfl, show ((6 : Int) == 4) = false from rfl, show ((6 : Int) == 5) = false from rfl, show ((6 : Int) == 7) = false from rfl, show ((6 : Int) == 8) = false from rfl, sumK, Option.bind_some, beq_self_eq_true, cond_true, cond_false, Bool.true_and, Bool.and_true, lt, w9]
    rw [clamp_eq n _ (by decide)]
    generalize (w == []) = x
    generalize decide (1000000000 < n) = p
    generalize decide (n < -1000000000) = q
    generalize (r == 0 && (g == 0 && (b == 0 && a == 0))) = y
    cases x <;> cases y <;> cases p <;> cases q <;> rfl
  by_cases h7 : k = 7
  · subst h7; clear h1 h2 h3 h4 h5 h6
    cases hn : (n == 0)
    · simp only [show ((7 : Int) == 1) = false from rfl, show ((7 : Int) == 2) = false from rfl, show ((7 : Int) == 3) = false from rfl, show ((7 : Int) == 4) = false from rfl, show ((7 : Int) == 5) = false from rfl, show ((7 : Int) == 6) = false from rfl, show ((7 : Int) == 8) = false from rfl, sumK, Option.bind_some, beq_self_eq_true, cond_true, cond_false, Bool.true_and, Bool.and_true, lt, w12, hn]
      cases hw : (w == ([] : Str)) <;> simp []
    · obtain ⟨z1, z2⟩ := zero_rng n 1000000000000 (by decide) hn
      simp only [show ((7 : Int) == 1) = false from rfl, show ((7 : Int) == 2) = false from rfl, show ((7 : Int) == 3) = false from rfl, show ((7 : Int) == 4) = false from rfl, show ((7 : Int) == 5) = false from rfl, show ((7 : Int) == 6) = false from rfl, show ((7 : Int) == 8) = false from rfl, sumK, Option.bind_some, beq_self_eq_true, cond_true, cond_false, Bool.true_and, Bool.and_true, lt, w12, hn, z1, z2]
      cases hw : (w == ([] : Str)) <;> simp []
  by_cases h8 : k = 8
  · subst h8; clear h1 h2 h3 h4 h5 h6 h7
    cases hn : (n == 0)
    · simp only [show ((8 : Int) == 1) = false from rfl, show ((8 : Int) == 2) = false from rfl, show ((8 : Int) == 3) = false from rfl, show ((8 : Int) == 4) = false from rfl, show ((8 : Int) == 5) = false from rfl, show ((8 : Int) == 6) = false from rfl, show ((8 : Int) == 7) = false from rfl, sumK, Option.bind_some, beq_self_eq_true, cond_true, cond_false, Bool.true_and, Bool.and_true, lt, w12, hn]
      cases hw : (w == ([] : Str)) <;> simp []
    · obtain ⟨z1, z2⟩ := zero_rng n 1000000000000 (by decide) hn
      simp only [show ((8 : Int) == 1) = false from rfl, show ((8 : Int) == 2) = false from rfl, show ((8 : Int) == 3) = false from rfl, show ((8 : Int) == 4) = false from rfl, show ((8 : Int) == 5) = false from rfl, show ((8 : Int) == 6) = false from rfl, show ((8 : Int) == 7) = false from rfl, sumK, Option.bind_some, beq_self_eq_true, cond_true, cond_false, Bool.true_and, Bool.and_true, lt, w12, hn, z1, z2]
      cases hw : (w == ([] : Str)) <;> simp []
  have f : ∀ j : Int, k ≠ j → (k == j) = false := fun j h => beq_eq_false_iff_ne.2 h
  simp only [f _ h1, f _ h2, f _ h3, f _ h4, f _ h5, f _ h6, f _ h7, f _ h8, sumK, Option.bind_some, beq_self_eq_true, cond_false, Bool.true_and, Bool.and_true, lt]
theorem check_some (v : TVal) : ∃ e, props_Check v = some e ∧ r25_Check v = some e := by
  suffices h : ∃ e, r25_Check v = some e by
    obtain ⟨e, he⟩ := h
    exact ⟨e, (check_eq v).trans he, he⟩
  obtain ⟨k, w, n, ⟨r, g, b, a⟩⟩ := v
  unfold r25_Check
  simp only [lt]
  have f : ∀ (c : Bool) (x y : Int), ∃ e, (cond c (some x) (some y)) = some e := fun c x y => by cases c; exact ⟨y, rfl⟩; exact ⟨x, rfl⟩
  cases (k == 1) <;> cases (w == ([] : Str)) <;> cases (k == 2) <;> cases (k == 3) <;> cases (k == 4) <;> cases (k == 5) <;> cases (k == 6) <;> cases (k == 7) <;> cases (k == 8) <;> first | exact f _ _ _ | exact ⟨_, rfl⟩
/-! Has -/
theorem words_lt : (tab.all fun p => decide (p.Words.length < 60) && decide (p.Kinds.length < 60) && !(p.Kinds.contains 1)) = true := by kernel_rfl
theorem gi_mem {prop : Int} (h : 0 ≤ prop ∧ prop < ln tab) : gi tab prop ∈ tab := by
  obtain ⟨i, rfl⟩ : ∃ i : Nat, prop = i := ⟨prop.toNat, by omega⟩
  have hi : i < tab.length := by unfold ln at h; omega
  rw [gi_nat _ _ hi]
  exact List.getElem_mem _
theorem cont_s (l : List Str) (x : Str) (h : l.length < 60) : slices_Contains_string_string 64 l x = some (scanO (fun i => x == gi l i) l.length 0).isSome := by
  have h1 := scan_of (slices_Index_string_string_L1 64 l x) (fun i => x == gi l i) (fun i => Sum.inl i) (Sum.inr ()) (ln l) l.length rfl (by omega)
    (fun kk i hi => by rw [slices_Index_string_string_L1]; exact scan_chk hi) l.length 0 64 rfl (by omega) (by omega)
  unfold slices_Contains_string_string slices_Index_string_string
  rw [show (0 : Int) = ((0 : Nat) : Int) from rfl, h1]
  cases hf : scanO (fun i => x == gi l i) l.length 0 with
  | none => rfl
  | some r =>
    have h0 := scanO_ge _ _ _ _ hf
    have h2 : decide (((0 : Nat) : Int) ≤ r) = true := decide_eq_true (by omega)
    show some (decide (((0 : Nat) : Int) ≤ r)) = _
    rw [h2]
    rfl
theorem cont_i (l : List Int) (x : Int) (h : l.length < 60) : slices_Contains_uint8_uint8 64 l x = some (scanO (fun i => x == gi l i) l.length 0).isSome := by
  have h1 := scan_of (slices_Index_uint8_uint8_L1 64 l x) (fun i => x == gi l i) (fun i => Sum.inl i) (Sum.inr ()) (ln l) l.length rfl (by omega)
    (fun kk i hi => by rw [slices_Index_uint8_uint8_L1]; exact scan_chk hi) l.length 0 64 rfl (by omega) (by omega)
  unfold slices_Contains_uint8_uint8 slices_Index_uint8_uint8
  rw [show (0 : Int) = ((0 : Nat) : Int) from rfl, h1]
  cases hf : scanO (fun i => x == gi l i) l.length 0 with
  | none => rfl
  | some r =>
    have h0 := scanO_ge _ _ _ _ hf
    have h2 : decide (((0 : Nat) : Int) ≤ r) = true := decide_eq_true (by omega)
    show some (decide (((0 : Nat) : Int) ≤ r)) = _
    rw [h2]
    rfl
def hasW (p : TProp) (w : Str) : Bool := (scanO (fun i => w == gi p.Words i) p.Words.length 0).isSome
def hasK (p : TProp) (v : TVal) : Bool := cond (scanO (fun i => v.Kind == gi p.Kinds i) p.Kinds.length 0).isSome (cond (!p.Least) true (decide (0 ≤ v.Num))) false
def hasA (prop : Int) (v : TVal) (e : Int) : Bool × Int := cond (cond (decide (prop < 0)) true (decide (18 ≤ prop))) (false, 2)
  (cond (e != 0) (false, 0) (cond (v.Kind == 1) (hasW (gi tab prop) v.Word, 0) (hasK (gi tab prop) v, 0)))
theorem rng {prop : Int} (h : cond (decide (prop < 0)) true (decide (18 ≤ prop)) = false) : 0 ≤ prop ∧ prop < ln tab := by
  rw [tab_ln]
  by_cases h1 : prop < 0
  · rw [decide_eq_true h1] at h; cases h
  · rw [decide_eq_false h1] at h
    have : ¬ (18 ≤ prop) := of_decide_eq_false h
    omega
theorem lens {prop : Int} (h : 0 ≤ prop ∧ prop < ln tab) : (gi tab prop).Words.length < 60 ∧ (gi tab prop).Kinds.length < 60 ∧ (gi tab prop).Kinds.contains 1 = false := by
  have := List.all_eq_true.1 words_lt _ (gi_mem h)
  simp only [Bool.and_eq_true, decide_eq_true_eq, Bool.not_eq_true'] at this
  exact ⟨this.1.1, this.1.2, this.2⟩
theorem has_p (prop : Int) (v : TVal) (e : Int) (he : props_Check v = some e) : props_Has 64 prop v = some (hasA prop v e) := by
  unfold props_Has hasA
  simp only [lt_eq]
  cases hr : cond (decide (prop < 0)) true (decide (18 ≤ prop))
  · have h0 := rng hr
    obtain ⟨l1, l2, _⟩ := lens h0
    simp only [cond_false]
    rw [tab_p]
    simp only [Option.bind_some]
    rw [chk_pos h0, he]
    simp only [Option.bind_some]
    cases (e != 0)
    · simp only [cond_false]
      rw [cont_s _ _ l1, cont_i _ _ l2]
      simp only [Option.bind_some]
      cases (v.Kind == 1) <;> rfl
    · rfl
  · rfl
theorem has_r (prop : Int) (v : TVal) (e : Int) (he : r25_Check v = some e) : r25_Has 64 prop v = some (hasA prop v e) := by
  unfold r25_Has hasA
  rw [tab_r]
  simp only [lt_eq, Option.bind_some]
  rw [show ln tab = 18 from tab_ln]
  cases hr : cond (decide (prop < 0)) true (decide (18 ≤ prop))
  · have h0 := rng hr
    obtain ⟨l1, l2, _⟩ := lens h0
    simp only [cond_false]
    rw [he]
    simp only [Option.bind_some]
    cases (e != 0)
    · simp only [cond_false]
      rw [← show ln tab = 18 from tab_ln, chk_pos h0]
      have hw := scan_of (r25_Has_L1 64 prop v tab) (fun i => v.Word == gi (gi tab prop).Words i) (fun i => Sum.inl (Sum.inl (true, 0))) (Sum.inr ()) (ln (gi tab prop).Words) (gi tab prop).Words.length rfl (by omega)
        (fun kk i hi => by rw [r25_Has_L1, beqc]; exact scan_chk hi) _ 0 64 rfl (by omega) (by omega)
      have hk := scan_of (r25_Has_L2 64 prop v tab) (fun i => v.Kind == gi (gi tab prop).Kinds i) (fun i => Sum.inl (cond (!(gi tab prop).Least) true (decide (0 ≤ v.Num)), 0)) (Sum.inr ()) (ln (gi tab prop).Kinds) (gi tab prop).Kinds.length rfl (by omega)
        (fun kk i hi => by rw [r25_Has_L2, beqc]; exact scan_chk hi) _ 0 64 rfl (by omega) (by omega)
      rw [show (0 : Int) = ((0 : Nat) : Int) from rfl, hw, hk]
      unfold hasW hasK
      cases (v.Kind == 1)
      · cases hf : scanO (fun i => v.Kind == gi (gi tab prop).Kinds i) (gi tab prop).Kinds.length 0 <;> rfl
      · cases hf : scanO (fun i => v.Word == gi (gi tab prop).Words i) (gi tab prop).Words.length 0 <;> rfl
    · rfl
  · rfl

/-! The laws -/
theorem plain_PropsTells (name : Str) (prop : Int) (v : TVal) (_ : name.length ≤ maxLen) (_ : (Lit.int .i64 prop).wf = true) (_ : wf_TVal v) : law25_PropsTells 64 name prop v = some true := by
  unfold law25_PropsTells
  simp only [lt_eq]
  cases cond (decide (200 < ln name)) true (decide (200 < ln v.Word))
  · obtain ⟨e, he, he'⟩ := check_some v
    simp only [cond_false, find_p, find_r, inh_p, inh_r, has_p prop v e he, has_r prop v e he', Option.bind_some, beq_self_eq_true, cond_true, cst_p, cst_r, he, he']
  · rfl
theorem has_out (prop : Int) (v : TVal) (h : cond (decide (prop < 0)) true (decide (18 ≤ prop)) = true) : props_Has 64 prop v = some (false, 2) := by
  unfold props_Has
  simp only [lt_eq]
  rw [h]
  rfl
theorem plain_PropsInitial (prop : Int) (_ : (Lit.int .i64 prop).wf = true) : law25_PropsInitial 64 prop = some true := by
  cases hr : cond (decide (prop < 0)) true (decide (18 ≤ prop))
  · have h0 := rng hr
    rw [tab_ln] at h0
    have hall : ((List.range 18).all fun i => law25_PropsInitial 64 (i : Int) == some true) = true := by kernel_rfl
    obtain ⟨i, rfl⟩ : ∃ i : Nat, prop = i := ⟨prop.toNat, by omega⟩
    have := List.all_eq_true.1 hall i (by simp; omega)
    simpa using this
  · unfold law25_PropsInitial
    rw [alive_p, tab_p]
    simp only [Option.bind_some, lt_eq]
    rw [show ln tab = 18 from tab_ln, hr]
    simp only [cond_true]
    rw [has_out prop _ hr, chk_pos (by decide)]
    rfl
theorem no_dash : (tab.all fun p => !(p.Name.take 2 == [45, 45])) = true := by kernel_rfl
theorem find_dash (s : Str) : findA ([45, 45] ++ s) = (0, 6) := by
  unfold findA find
  rw [scanO_none]
  intro j hj
  have h := List.all_eq_true.1 no_dash _ (gi_mem (prop := ((0 + j : Nat) : Int)) (by rw [tab_ln]; omega))
  refine beq_eq_false_iff_ne.2 fun h1 => ?_
  rw [h1] at h
  simp at h
theorem dash8 (x : UInt8) : (([45, x] : Str) == [45, 45]) = ((x.toNat : Int) == 45) := by
  by_cases hx : x = 45
  · subst hx; rfl
  · have h1 : x.toNat ≠ 45 := fun h => hx (UInt8.toNat_inj.1 (h.trans (by decide)))
    rw [beq_eq_false_iff_ne.2 (show (x.toNat : Int) ≠ 45 from by omega)]
    exact beq_eq_false_iff_ne.2 fun h => hx (by simpa using h)
theorem plain_PropsCustom (s : Str) (hs : s.length ≤ maxLen) : law25_PropsCustom 64 s = some true := by
  have hl : ln s ≤ 9223372036854775807 := by unfold ln maxLen at *; omega
  have h0 : 0 ≤ ln s := ln_nn s
  have e2 : ln ([45, 45] ++ s) = 2 + ln s := by simp [ln]; omega
  have e1 : ln ([45] ++ s) = 1 + ln s := by simp [ln]; omega
  have c2 : cst ([45, 45] ++ s) = cond (decide (0 < ln s)) (decide (ln s ≤ 62)) false := by
    unfold cst
    rw [e2]
    have : sub ([45, 45] ++ s) 0 2 = [45, 45] := by simp [sub]
    rw [this]
    by_cases h1 : 0 < ln s
    · have h2 : 2 < 2 + ln s := by omega
      by_cases h3 : ln s ≤ 62
      · have h4 : 2 + ln s ≤ 64 := by omega
        simp [h1, h2, h3, h4]
      · have h4 : ¬ (2 + ln s ≤ 64) := by omega
        simp [h1, h2, h3, h4]
    · have h2 : ¬ (2 < 2 + ln s) := by omega
      simp [h1, h2]
  have i2 : inh ([45, 45] ++ s) = cond (cst ([45, 45] ++ s)) (true, 0) (false, 6) := by
    unfold inh
    rw [find_dash]
    rfl
  have c1 : cst ([45] ++ s) = cond (cond (decide (1 < ln s)) (bat s 0 == 45) false) (decide (ln s ≤ 63)) false := by
    unfold cst
    rw [e1]
    cases s with
    | nil => simp [ln]
    | cons x r =>
      have h5 : sub ([45] ++ (x :: r)) 0 2 = [45, x] := by simp [sub]
      rw [h5]
      have h6 : bat (x :: r) 0 = (x.toNat : Int) := by simp [bat]
      rw [h6]
      have h7 := dash8 x
      rw [h7]
      by_cases h1 : 1 < ln (x :: r)
      · have h2 : 2 < 1 + ln (x :: r) := by omega
        by_cases h3 : ln (x :: r) ≤ 63
        · have h4 : 1 + ln (x :: r) ≤ 64 := by omega
          simp [h1, h2, h3, h4]
        · have h4 : ¬ (1 + ln (x :: r) ≤ 64) := by omega
          simp [h1, h2, h3, h4]
      · have h2 : ¬ (2 < 1 + ln (x :: r)) := by omega
        simp [h1, h2]
  unfold law25_PropsCustom
  rw [alive_p]
  simp only [Option.bind_some, lt_eq]
  cases h100 : decide (100 < ln s)
  · simp only [cond_false, Bool.not_true]
    have hc : ln s ≤ 100 := by have := of_decide_eq_false h100; omega
    have n2 : ln ([45, 45] : List Nat) = 2 := rfl
    have n1 : ln ([45] : List Nat) = 1 := rfl
    simp only [cond_true]
    rw [chk_pos (show ln ([45, 45] : List Nat) + ln s ≤ 9223372036854775807 by rw [n2]; omega), cst_p, inh_p, i2, c2]
    simp only [Option.bind_some]
    rw [chk_pos (show _ → ln ([45] : List Nat) + ln s ≤ 9223372036854775807 from fun _ => by rw [n1]; omega), cst_p, c1]
    generalize cond (decide (0 < ln s)) (decide (ln s ≤ 62)) false = d
    have hq : ∀ h : decide (1 < ln s) = true, True → (0 : Int) ≤ 0 ∧ (0 : Int) < ln s := fun h _ => ⟨by omega, by have := of_decide_eq_true h; omega⟩
    cases d <;> simp only [cond_true, cond_false, beq_self_eq_true, show ((6 : Int) == 0) = false from rfl, Option.bind_some] <;>
      rw [chk_pos (fun h _ => hq h trivial)] <;> simp
  · rfl
theorem hasA_ok (prop : Int) (v : TVal) (e : Int) (hr : cond (decide (prop < 0)) true (decide (18 ≤ prop)) = false) : (hasA prop v e).2 = 0 ∧ (hasA prop v e).1 = cond (e != 0) false (cond (v.Kind == 1) (hasW (gi tab prop) v.Word) (hasK (gi tab prop) v)) := by
  unfold hasA
  rw [hr]
  cases (e != 0) <;> cases (v.Kind == 1) <;> exact ⟨rfl, rfl⟩
theorem scanO_and (t : Int → Bool) (c : Bool) : ∀ (k i : Nat), (scanO (fun i => cond (t i) c false) k i).isSome = cond (scanO t k i).isSome c false
  | 0, _ => rfl
  | k + 1, i => by
    rw [scanO, scanO]
    have := scanO_and t c k (i + 1)
    cases t i
    · exact this
    · cases c
      · simp only [cond_true, cond_false]
        have h2 := this
        cases (scanO t k (i + 1)).isSome <;> simpa using h2
      · rfl
theorem scanO_one (l : List Int) (h : l.contains 1 = false) : ∀ (k i : Nat), i + k = l.length → scanO (fun i => (1 : Int) == gi l i) k i = none
  | 0, _, _ => rfl
  | k + 1, i, hk => by
    rw [scanO]
    have hi : i < l.length := by omega
    have : ((1 : Int) == gi l (i : Int)) = false := by
      rw [gi_nat _ _ hi]
      refine beq_eq_false_iff_ne.2 fun h1 => ?_
      have : l.contains 1 = true := List.contains_iff_mem.2 (by rw [h1]; exact List.getElem_mem hi)
      rw [this] at h
      cases h
    simp only [this, cond_false]
    exact scanO_one l h k (i + 1) (by omega)
theorem plain_PropsHas (prop : Int) (v : TVal) (_ : (Lit.int .i64 prop).wf = true) (_ : wf_TVal v) : law25_PropsHas 64 prop v = some true := by
  unfold law25_PropsHas
  rw [alive_p, tab_p]
  simp only [Option.bind_some, lt_eq]
  cases hr : cond (decide (prop < 0)) true (decide (18 ≤ prop))
  · have h0 := rng hr
    obtain ⟨l1, l2, l3⟩ := lens h0
    rw [show (ln tab != 18) = false from rfl]
    cases decide (200 < ln v.Word)
    · obtain ⟨e, he, he'⟩ := check_some v
      obtain ⟨a2, a1⟩ := hasA_ok prop v e hr
      rw [has_p prop v e he]
      simp only [cond_false, Bool.not_true, cond_true, Option.bind_some]
      rw [a2, a1, chk_pos h0, he]
      have hw := or_of (fun kk b i => law25_PropsHas_L1 64 prop v tab kk b i) (fun i => v.Word == gi (gi tab prop).Words i) (ln (gi tab prop).Words) (gi tab prop).Words.length rfl (by omega)
        (fun kk b i hi => by
          show law25_PropsHas_L1 64 prop v tab (kk + 1) b i = _
          rw [law25_PropsHas_L1, beqc]
          by_cases h : i < ln (gi tab prop).Words
          · rw [chk_pos (fun _ => ⟨hi, h⟩)]; rfl
          · rw [decide_eq_false h]; rfl) _ 0 64 false rfl (by omega) (by omega)
      have hk := fun b => or_of (fun kk b i => law25_PropsHas_L2 64 prop v tab kk b i) (fun i => cond (v.Kind == gi (gi tab prop).Kinds i) (cond (!(gi tab prop).Least) true (decide (0 ≤ v.Num))) false) (ln (gi tab prop).Kinds) (gi tab prop).Kinds.length rfl (by omega)
        (fun kk b i hi => by
          show law25_PropsHas_L2 64 prop v tab (kk + 1) b i = _
          rw [law25_PropsHas_L2, beqc]
          by_cases h : i < ln (gi tab prop).Kinds
          · rw [chk_pos (fun _ => ⟨hi, h⟩)]; rfl
          · rw [decide_eq_false h]; rfl) _ 0 64 b rfl (by omega) (by omega)
      have hw' : law25_PropsHas_L1 64 prop v tab 64 false 0 = some (hasW (gi tab prop) v.Word) := hw
      have hk' : ∀ b, law25_PropsHas_L2 64 prop v tab 64 b 0 = some (b || hasK (gi tab prop) v) := fun b => by
        refine (hk b).trans ?_
        rw [scanO_and]
        rfl
      rw [hw']
      cases h1 : (v.Kind == 1)
      · simp only [cond_false, Option.bind_some]
        rw [hk']
        simp only [Option.bind_some, Bool.false_or]
        cases hasK (gi tab prop) v <;> by_cases he0 : e = 0 <;> simp [he0, bne]
      · have hkk : hasK (gi tab prop) v = false := by
          unfold hasK
          have h2 : v.Kind = 1 := by simpa using h1
          rw [h2, scanO_one _ l3 _ 0 (by omega)]
          rfl
        simp only [cond_true, Option.bind_some]
        rw [hk', hkk]
        simp only [Option.bind_some, Bool.or_false]
        cases hasW (gi tab prop) v.Word <;> by_cases he0 : e = 0 <;> simp [he0, bne]
    · rfl
  · rfl
end Go.Proofs.YtfcnkhiohnjepaaDoor

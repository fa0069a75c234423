/-
 The table of properties, and what is inherited: both readers. No program in sight.
-/
import Derived.Test.YtehlikdeobajcaaGreatDoorM
import Derived.KernelRfl
set_option linter.unusedVariables false
set_option maxRecDepth 100000
namespace Go.V
def scanO (t : Int → Bool) : Nat → Nat → Option Int
 | 0, _ => none
 | k + 1, i => cond (t i) (some (i : Int)) (scanO t k (i + 1))
theorem scan_chk {β : Type} {i N : Int} {X Y : Option β} (hi : 0 ≤ i) : cond (decide (i < N)) (chk (0 ≤ i ∧ i < N) X) Y = cond (decide (i < N)) X Y := by
 by_cases h : i < N
 ·rw [chk_pos ⟨hi, h⟩]
 ·rw [decide_eq_false h]; rfl
theorem scan_of {β : Type} (F : Nat → Int → Option β) (t : Int → Bool) (hit : Int → β) (miss : β) (N : Int) (n : Nat) (hN : N = n) (hn : n < 4611686018427387904)
  (hF : ∀ kk (i : Int), 0 ≤ i → F (kk + 1) i = cond (decide (i < N)) (cond (t i) (some (hit i)) (F kk (w64 (i + 1)))) (some miss)) :
  ∀ (k i kk : Nat), k = n - i → i ≤ n → k < kk → F kk (i : Int) = some (((scanO t k i).map hit).getD miss) := by
 subst hN
 intro k
 induction k with
 | zero =>
  intro i kk hk hi hkk
  obtain ⟨kk, rfl⟩ : ∃ q, kk = q + 1 := ⟨kk - 1, by omega⟩
  rw [hF kk i (by omega)]
  have : decide ((i : Int) < n) = false := decide_eq_false (by omega)
  rw [this]
  rfl
 | succ k ih =>
  intro i kk hk hi hkk
  obtain ⟨kk, rfl⟩ : ∃ q, kk = q + 1 := ⟨kk - 1, by omega⟩
  rw [hF kk i (by omega)]
  have : decide ((i : Int) < n) = true := decide_eq_true (by omega)
  rw [this, w64_ix (by omega)]
  simp only [cond_true]
  rw [scanO]
  cases t i
  ·simp only [cond_false]
   exact ih (i + 1) kk (by omega) (by omega) (by omega)
  ·rfl
theorem scanO_ge (t : Int → Bool) : ∀ (k i : Nat) (r : Int), scanO t k i = some r → (i : Int) ≤ r ∧ r < (i + k : Nat)
 | 0, _, _, h => by cases h
 | k + 1, i, r, h => by
  rw [scanO] at h
  cases ht : t i <;> rw [ht] at h
  ·have := scanO_ge t k (i + 1) r h
   omega
  ·cases h
   omega
end Go.V
namespace Go.Proofs.YtehlikdeobajcaaGreatDoor
open Go Go.V Go.RowKit
theorem beqc {α : Type} [BEq α] [LawfulBEq α] [DecidableEq α] (a b : α) : (a == b) = (b == a) := by
 by_cases h : a = b
 ·subst h; rfl
 ·rw [beq_eq_false_iff_ne.2 h, beq_eq_false_iff_ne.2 (Ne.symm h)]
def tab : List TProp := (props_Table 64).getD []
theorem tab_p : props_Table 64 = some tab := by kernel_rfl
theorem tab_r : r25_Table = some tab := by kernel_rfl
theorem tab_ln : ln tab = ((18 : Nat) : Int) := by kernel_rfl
def find (s : Str) : Option Int := scanO (fun i => (gi tab i).Name == s) 18 0
def findA (s : Str) : Int × Int := match find s with
 | none => (0, 6)
 | some i => (i, 0)
theorem find_p (s : Str) : props_Find 64 s = some (findA s) := by
 have h := scan_of (slices_IndexFunc_api_Prop_api_Prop_L1 64 tab s) (fun i => (gi tab i).Name == s) (fun i => Sum.inl i) (Sum.inr ()) (ln tab) 18 tab_ln (by decide)
  (fun kk i hi => by rw [slices_IndexFunc_api_Prop_api_Prop_L1]; exact scan_chk hi) 18 0 64 rfl (by decide) (by decide)
 unfold props_Find
 rw [tab_p]
 simp only [Option.bind_some]
 unfold slices_IndexFunc_api_Prop_api_Prop
 rw [show (0 : Int) = ((0 : Nat) : Int) from rfl, h]
 unfold findA find
 cases hf : scanO (fun i => (gi tab i).Name == s) 18 0 with
 | none => rfl
 | some r =>
  have h0 := scanO_ge _ _ _ _ hf
  have h1 : decide (r < 0) = false := decide_eq_false (by omega)
  simp only [Option.map_some, Option.getD_some, Option.bind_some, sumK]
  show cond (decide (r < 0)) _ _ = _
  rw [h1]
  rfl
theorem find_r (s : Str) : r25_Find 64 s = some (findA s) := by
 have h := scan_of (r25_Find_L1 64 s tab) (fun i => (gi tab i).Name == s) (fun i => Sum.inl (i, 0)) (Sum.inr ()) (ln tab) 18 tab_ln (by decide)
  (fun kk i hi => by rw [r25_Find_L1]; exact scan_chk hi) 18 0 64 rfl (by decide) (by decide)
 unfold r25_Find
 rw [tab_r]
 simp only [Option.bind_some]
 rw [show (0 : Int) = ((0 : Nat) : Int) from rfl, h]
 unfold findA find
 cases hf : scanO (fun i => (gi tab i).Name == s) 18 0 with
 | none => rfl
 | some r => rfl
theorem find_lt {s : Str} (h : (findA s).2 = 0) : 0 ≤ (findA s).1 ∧ (findA s).1 < ln tab := by
 rw [tab_ln]
 unfold findA find at h ⊢
 cases hf : scanO (fun i => (gi tab i).Name == s) 18 0 with
 | none => rw [hf] at h; cases h
 | some r =>
  have h0 := scanO_ge _ _ _ _ hf
  show 0 ≤ r ∧ r < _
  omega
def cst (s : Str) : Bool := decide (2 < ln s) && decide (ln s ≤ 64) && (sub s 0 2 == [45, 45])
theorem cst_p (s : Str) : props_Custom s = some (cst s) := by
 unfold props_Custom strings_HasPrefix stringslite_HasPrefix
 rw [show ln ([45, 45] : Str) = 2 from rfl, chk_pos (fun h => ⟨by decide, of_decide_eq_true h⟩)]
 simp only [lt_eq, Option.bind_some]
 congr 1
 unfold cst
 by_cases h2 : 2 < ln s
 ·have : (2 : Int) ≤ ln s := by omega
  simp [h2, this]
  cases (sub s 0 2 == [45, 45]) <;> simp
 ·simp [h2]
theorem cst_r (s : Str) : r25_Custom s = some (cst s) := by
 unfold r25_Custom
 simp only [lt_eq]
 rw [chk_pos (fun h => ⟨by decide, by
  by_cases h2 : 2 < ln s
  ·omega
  ·rw [decide_eq_false h2] at h; cases h⟩)]
 congr 1
 unfold cst
 cases decide (2 < ln s) <;> cases decide (ln s ≤ 64) <;> rfl
def inh (s : Str) : Bool × Int := cond (cst s) (true, 0) (cond ((findA s).2 != 0) (false, (findA s).2) ((gi tab (findA s).1).Inherited, 0))
theorem inh_p (s : Str) : props_Inherited 64 s = some (inh s) := by
 unfold props_Inherited
 rw [cst_p]
 simp only [Option.bind_some]
 unfold inh
 cases cst s
 ·simp only [cond_false]
  rw [find_p]
  simp only [Option.bind_some]
  cases h : ((findA s).2 != 0)
  ·simp only [cond_false]
   rw [tab_p]
   simp only [Option.bind_some]
   rw [chk_pos (find_lt (by simpa using h))]
  ·rfl
 ·rfl
theorem inh_r (s : Str) : r25_Inherited 64 s = some (inh s) := by
 unfold r25_Inherited
 rw [cst_r]
 simp only [Option.bind_some]
 unfold inh
 cases cst s
 ·simp only [cond_false]
  rw [find_r]
  simp only [Option.bind_some]
  cases h : ((findA s).2 != 0)
  ·simp only [cond_false]
   rw [tab_r]
   simp only [Option.bind_some]
   rw [chk_pos (find_lt (by simpa using h))]
  ·rfl
 ·rfl
theorem cont_s (l : List Str) (x : Str) (h : l.length < 60) : slices_Contains_string_string 64 l x = some (scanO (fun i => x == gi l i) l.length 0).isSome := by
 have h1 := scan_of (slices_Index_string_string_L1 64 l x) (fun i => x == gi l i) (fun i => Sum.inl i) (Sum.inr ()) (ln l) l.length rfl (by omega)
  (fun kk i hi => by rw [slices_Index_string_string_L1]; exact scan_chk hi) l.length 0 64 rfl (by omega) (by omega)
 unfold slices_Contains_string_string slices_Index_string_string
 rw [show (0 : Int) = ((0 : Nat) : Int) from rfl, h1]
 cases hf : scanO (fun i => x == gi l i) l.length 0 with
 | none => rfl
 | some r =>
  have h0 := scanO_ge _ _ _ _ hf
  have h2 : decide (((0 : Nat) : Int) ≤ r) = true := decide_eq_true (by omega)
  show some (decide (((0 : Nat) : Int) ≤ r)) = _
  rw [h2]
  rfl
end Go.Proofs.YtehlikdeobajcaaGreatDoor

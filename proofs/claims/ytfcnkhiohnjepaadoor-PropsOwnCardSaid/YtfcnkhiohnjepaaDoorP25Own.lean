/-
  What the walk computes answers as the law says: tables of their own. Nothing here is a statement of this claim.
-/
import Derived.Test.YtfcnkhiohnjepaaDoorVP
import Derived.Test.YtfcnkhiohnjepaaDoorW25ol
import Derived.KernelRfl
namespace Go.V
/-- The first place from 'i' on, of 'k', where 't' holds. -/
def scanO (t : Int → Bool) : Nat → Nat → Option Int
  | 0, _ => none
  | k + 1, i => cond (t i) (some (i : Int)) (scanO t k (i + 1))
theorem scan_chk {β : Type} {i N : Int} {X Y : Option β} (hi : 0 ≤ i) : cond (decide (i < N)) (chk (0 ≤ i ∧ i < N) X) Y = cond (decide (i < N)) X Y := by
  by_cases h : i < N
  · rw [chk_pos ⟨hi, h⟩]
  · rw [decide_eq_false h]; rfl
theorem scan_of {β : Type} (F : Nat → Int → Option β) (t : Int → Bool) (hit : Int → β) (miss : β) (N : Int) (n : Nat) (hN : N = n) (hn : n < 4611686018427387904)
    (hF : ∀ kk (i : Int), 0 ≤ i → F (kk + 1) i = cond (decide (i < N)) (cond (t i) (some (hit i)) (F kk (w64 (i + 1)))) (some miss)) :
    ∀ (k i kk : Nat), k = n - i → i ≤ n → k < kk → F kk (i : Int) = some (((scanO t k i).map hit).getD miss) := by
  subst hN
  intro k
  induction k with
  | zero =>
    intro i kk hk hi hkk
    obtain ⟨kk, rfl⟩ : ∃ q, kk = q + 1 := ⟨kk - 1, by omega⟩
    rw [hF kk i (by omega)]
    have : decide ((i : Int) < n) = false := decide_eq_false (by omega)
    rw [this]
    rfl
  | succ k ih =>
    intro i kk hk hi hkk
    obtain ⟨kk, rfl⟩ : ∃ q, kk = q + 1 := ⟨kk - 1, by omega⟩
    rw [hF kk i (by omega)]
    have : decide ((i : Int) < n) = true := decide_eq_true (by omega)
    rw [this, w64_ix (by omega)]
    simp only [cond_true]
    rw [scanO]
    cases t i
    · simp only [cond_false]
      exact ih (i + 1) kk (by omega) (by omega) (by omega)
    · rfl
theorem scanO_ge (t : Int → Bool) : ∀ (k i : Nat) (r : Int), scanO t k i = some r → (i : Int) ≤ r ∧ r < (i + k : Nat)
  | 0, _, _, h => by cases h
  | k + 1, i, r, h => by
    rw [scanO] at h
    cases ht : t i <;> rw [ht] at h
    · have := scanO_ge t k (i + 1) r h
      omega
    · cases h
      omega
theorem scanO_none (t : Int → Bool) : ∀ (k i : Nat), (∀ j : Nat, j < k → t ((i + j : Nat) : Int) = false) → scanO t k i = none
  | 0, _, _ => rfl
  | k + 1, i, h => by
    rw [scanO, show t (i : Int) = false from h 0 (by omega)]
    exact scanO_none t k (i + 1) fun j hj => by have := h (j + 1) (by omega); rw [show i + 1 + j = i + (j + 1) from by omega]; exact this
end Go.V
namespace Go.Proofs.YtfcnkhiohnjepaaDoor
open Go Go.V
set_option maxRecDepth 100000
def tab : List TProp := (props_Table 64).getD []
theorem tab_p : props_Table 64 = some tab := by kernel_rfl
theorem tab_r : r25_Table = some tab := by kernel_rfl
theorem tab_ln : ln tab = ((18 : Nat) : Int) := by kernel_rfl
theorem alive_p : law25_alive 64 = some true := by kernel_rfl
theorem okT_p : okT tab = true := by kernel_rfl
theorem same_p : r25_SameTable 64 tab tab = some true := by kernel_rfl
theorem turn_p : (law25_PropsOwn_L1 64 64 tab 0).isSome = true := by kernel_rfl
/-! Find -/
def find (s : Str) : Option Int := scanO (fun i => (gi tab i).Name == s) 18 0
def findA (s : Str) : Int × Int := match find s with
  | none => (0, 6)
  | some i => (i, 0)
theorem find_p (s : Str) : props_Find 64 s = some (findA s) := by
  have h := scan_of (slices_IndexFunc_api_Prop_api_Prop_L1 64 tab s) (fun i => (gi tab i).Name == s) (fun i => Sum.inl i) (Sum.inr ()) (ln tab) 18 tab_ln (by decide)
    (fun kk i hi => by rw [slices_IndexFunc_api_Prop_api_Prop_L1]; exact scan_chk hi) 18 0 64 rfl (by decide) (by decide)
  unfold props_Find
  rw [tab_p]
  simp only [Option.bind_some]
  unfold slices_IndexFunc_api_Prop_api_Prop
  rw [show (0 : Int) = ((0 : Nat) : Int) from rfl, h]
  unfold findA find
  cases hf : scanO (fun i => (gi tab i).Name == s) 18 0 with
  | none => rfl
  | some r =>
    have h0 := scanO_ge _ _ _ _ hf
    have h1 : decide (r < 0) = false := decide_eq_false (by omega)
    simp only [Option.map_some, Option.getD_some, Option.bind_some, sumK]
    show cond (decide (r < 0)) _ _ = _
    rw [h1]
    rfl
/-- The names of the table, one by one. -/
theorem own_in : (tab.all fun p => law25_PropsOwn 64 p.Name == some true) = true := by kernel_rfl
theorem own_out (s : Str) (h : ∀ p ∈ tab, p.Name ≠ s) : ∀ i : Int, 0 ≤ i ∧ i < ln tab → ((gi tab i).Name == s) = false := fun i hi => by
  have hl : i.toNat < tab.length := by unfold ln at hi; omega
  have hg : gi tab i = tab[i.toNat] := by simp [gi, List.getD_eq_getElem?_getD, List.getElem?_eq_getElem hl]
  rw [hg]
  exact beq_eq_false_iff_ne.2 (h _ (List.getElem_mem hl))
theorem plain_PropsOwn (name : Str) (_ : name.length ≤ maxLen) : law25_PropsOwn 64 name = some true := by
  by_cases hin : ∀ p ∈ tab, p.Name ≠ name
  · have ho := own_out name hin
    have hc := scan_of (fun kk i => law25_PropsOwn_L4 64 name tab kk 0 i) (fun _ => false) (fun i => i) (0 : Int) (ln tab) 18 tab_ln (by decide)
      (fun kk i hi => by
        show law25_PropsOwn_L4 64 name tab (kk + 1) 0 i = _
        rw [law25_PropsOwn_L4]
        by_cases hl : i < ln tab
        · rw [chk_pos ⟨hi, hl⟩, ho i ⟨hi, hl⟩]
          rfl
        · rw [decide_eq_false hl]
          rfl) 18 0 64 rfl (by decide) (by decide)
    rw [scanO_none _ _ _ (fun _ _ => rfl)] at hc
    have hf : findA name = (0, 6) := by
      unfold findA find
      rw [scanO_none _ _ _ fun j hj => ho _ (by rw [tab_ln]; omega)]
    obtain ⟨z, hz⟩ := Option.isSome_iff_exists.1 turn_p
    unfold law25_PropsOwn
    rw [alive_p, Option.bind_some, lt_eq]
    cases hl : decide (200 < ln name)
    · rw [show (cond false true !true) = false from rfl, cond_false, tab_p, Option.bind_some, chk_pos okT_p, hz, Option.bind_some, Option.bind_some]
      rw [show law25_PropsOwn_L4 64 name tab 64 0 0 = some 0 from hc, Option.bind_some, find_p, hf]
      simp only [Option.bind_some, lt_eq, tab_r, same_p]
      rfl
    · rfl
  · obtain ⟨p, hp, rfl⟩ : ∃ p ∈ tab, p.Name = name := by simpa using hin
    exact eq_of_beq (List.all_eq_true.1 own_in p hp)
end Go.Proofs.YtfcnkhiohnjepaaDoor

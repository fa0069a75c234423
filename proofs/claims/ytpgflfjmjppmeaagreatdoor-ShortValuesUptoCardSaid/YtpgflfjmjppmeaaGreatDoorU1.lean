/-
 What Expand looks at: var(), wide keywords, a list that is said again. No program in sight.
-/
import Derived.Test.YtpgflfjmjppmeaaGreatDoorS8
set_option linter.unusedVariables false
set_option maxRecDepth 100000
namespace Go.Proofs.YtpgflfjmjppmeaaGreatDoor
open Go Go.V Go.RowKit
theorem z_tok1 (x : TValue) : x.Token.Text.length ≤ zV x := by
 obtain ⟨t, l⟩ := x
 simp only [zV, zT, TValue.Token]
 omega
def words : List Str := [[105, 110, 105, 116, 105, 97, 108], [105, 110, 104, 101, 114, 105, 116], [117, 110, 115, 101, 116], [114, 101, 118, 101, 114, 116]]
def REV : Str := [114, 101, 118, 101, 114, 116]
def UNS : Str := [117, 110, 115, 101, 116]
theorem smallS_L1 (m : Nat) (s : Str) (hs : s.length ≤ 1048576) : ∀ (kk i : Nat) (b : List Int), s.length - i < kk → i ≤ s.length → ∃ r, short_small_L1 m s kk (i : Int) b = some r := by
 intro kk
 induction kk with
 | zero => intro i b h; omega
 | succ kk ih =>
  intro i b h hi
  have hl : (ofB s).length = s.length := by simp [ofB]
  rw [short_small_L1]
  by_cases h1 : i < s.length
  ·rw [lt_dec (by rw [hl]; exact h1), cond_true, chk_ix (by rw [hl]; exact h1), lt_eq, w64_ix (by omega)]
   cases (cond (decide (65 ≤ gi b (i : Int))) (decide (gi b (i : Int) ≤ 90)) false)
   ·exact ih (i + 1) _ (by omega) (by omega)
   ·exact ih (i + 1) _ (by omega) (by omega)
  ·rw [ge_dec (by rw [hl]; omega), cond_false]
   exact ⟨_, rfl⟩
theorem smallS_ex (s : Str) (hs : s.length ≤ 1048576) : ∃ r, short_small FU s = some r := by
 obtain ⟨r, h⟩ := smallS_L1 FU s hs FU 0 (ofB s) (by unfold FU; omega) (Nat.zero_le _)
 exact ⟨toB r, by unfold short_small; rw [show (0 : Int) = ((0 : Nat) : Int) from rfl, h]; rfl⟩
def wid (v : List TValue) : Str := (short_Wide FU v).getD []
theorem cont4 (x : Str) : slices_Contains_string_string 64 words x = some (cond (x == [105, 110, 105, 116, 105, 97, 108]) true (cond (x == [105, 110, 104, 101, 114, 105, 116]) true (cond (x == UNS) true (x == REV)))) := by
 rw [cont_s words x (by decide)]
 congr 1
 exact scan4 _ _ _ _ x
theorem wide_ex (v : List TValue) (hv : zVs v ≤ 1048576) : short_Wide FU v = some (wid v) ∧ (wid v = [] ∨ wid v = [105, 110, 105, 116, 105, 97, 108] ∨ wid v = [105, 110, 104, 101, 114, 105, 116] ∨ wid v = UNS ∨ wid v = REV) := by
 have key : ∃ w, short_Wide FU v = some w ∧ (w = [] ∨ w = [105, 110, 105, 116, 105, 97, 108] ∨ w = [105, 110, 104, 101, 114, 105, 116] ∨ w = UNS ∨ w = REV) := by
  unfold short_Wide
  by_cases h1 : ln v = 1
  ·have h0 : 0 ≤ (0 : Int) ∧ (0 : Int) < ln v := by omega
   rw [chk_pos (fun _ => h0), lt_eq]
   cases hx : (cond (ln v == 1) ((gi v (0 : Int)).Token.Kind == 1) false)
   ·exact ⟨[], rfl, Or.inl rfl⟩
   ·rw [cond_true, chk_pos h0]
    have hm : gi v (0 : Int) ∈ v := gi_mem' (i := 0) (by unfold ln at h1; omega)
    have h2 := z_mem hm
    have h3 : (gi v (0 : Int)).Token.Text.length ≤ 1048576 := by have := z_tok1 (gi v (0 : Int)); omega
    obtain ⟨r, hr⟩ := smallS_ex _ h3
    rw [hr, Option.bind_some]
    show ∃ w, Option.bind (Option.bind (slices_Contains_string_string 64 words r) _) _ = _ ∧ _
    rw [cont4, Option.bind_some]
    cases b1 : (r == ([105, 110, 105, 116, 105, 97, 108] : Str))
    ·cases b2 : (r == ([105, 110, 104, 101, 114, 105, 116] : Str))
     ·cases b3 : (r == UNS)
      ·cases b4 : (r == REV)
       ·exact ⟨[], rfl, Or.inl rfl⟩
       ·exact ⟨r, rfl, Or.inr (Or.inr (Or.inr (Or.inr (eq_of_beq b4))))⟩
      ·exact ⟨r, rfl, Or.inr (Or.inr (Or.inr (Or.inl (eq_of_beq b3))))⟩
     ·exact ⟨r, rfl, Or.inr (Or.inr (Or.inl (eq_of_beq b2)))⟩
    ·exact ⟨r, rfl, Or.inr (Or.inl (eq_of_beq b1))⟩
  ·have hb : (ln v == 1) = false := by simpa using h1
   rw [hb, chk_pos (fun h => by cases h), lt_eq]
   exact ⟨[], rfl, Or.inl rfl⟩
 obtain ⟨w, h1, h2⟩ := key
 have e : wid v = w := by unfold wid; rw [h1]; rfl
 rw [e]
 exact ⟨h1, h2⟩
def smF (s : Str) : Str := (short_small FU s).getD []
theorem sm_x (s : Str) (hs : s.length ≤ 1048576) : short_small FU s = some (smF s) := by
 obtain ⟨r, h⟩ := smallS_ex s hs
 unfold smF
 rw [h]
 rfl
mutual
def vV : TValue → Bool
 | .mk t l => cond (t.Kind == 2) (smF t.Text == [118, 97, 114]) false || vVs l
def vVs : List TValue → Bool
 | [] => false
 | x :: r => vV x || vVs r
end
theorem vV_at (x : TValue) : vV x = (cond (x.Token.Kind == 2) (smF x.Token.Text == [118, 97, 114]) false || vVs x.List_) := by obtain ⟨t, l⟩ := x; rw [vV]; rfl
theorem var_1 (rec : List TValue → Option Bool) (x : TValue) (hx : zV x ≤ 1048576) (hr : rec x.List_ = some (vVs x.List_)) : short_Var_1 FU rec x = some (vV x) := by
 have hz := z_txt x
 unfold short_Var_1
 rw [vV_at]
 cases (x.Token.Kind == 2)
 ·rw [cond_false, cond_false, Option.bind_some, lt_eq, hr]
  rfl
 ·rw [cond_true, cond_true, sm_x _ (by omega), Option.bind_some, lt_eq]
  cases (smF x.Token.Text == [118, 97, 114])
  ·rw [hr]; rfl
  ·rfl
theorem var_L1 (rec : List TValue → Option Bool) (v : List TValue) (hb : zVs v ≤ 1048576) (hr : ∀ x ∈ v, rec x.List_ = some (vVs x.List_)) : ∀ (kk i : Nat), v.length - i < kk → i ≤ v.length →
  (vVs (v.drop i) = true ∧ ∃ j : Nat, slices_IndexFunc_api_Value_api_Value_L1 FU rec v kk (i : Int) = some (.inl (j : Int))) ∨ (vVs (v.drop i) = false ∧ slices_IndexFunc_api_Value_api_Value_L1 FU rec v kk (i : Int) = some (.inr ())) := by
 have hl := z_len v
 intro kk
 induction kk with
 | zero => intro i h; omega
 | succ kk ih =>
  intro i h hi
  rw [slices_IndexFunc_api_Value_api_Value_L1]
  by_cases h1 : i < v.length
  ·have hm := gi_mem' h1
   have hz := z_mem hm
   rw [lt_dec h1, cond_true, chk_ix h1, var_1 rec _ (by omega) (hr _ hm), Option.bind_some, List.drop_eq_getElem_cons h1, vVs, ← gi_nat v i h1]
   cases hh : vV (gi v (i : Int))
   ·rw [cond_false, Bool.false_or, w64_ix (by omega)]
    exact ih (i + 1) (by omega) (by omega)
   ·left
    exact ⟨rfl, i, rfl⟩
  ·right
   rw [ge_dec (by omega), cond_false, List.drop_eq_nil_of_le (by omega), vVs]
   exact ⟨rfl, rfl⟩
theorem var_r : ∀ (k : Nat) (v : List TValue), zVs v < k → zVs v ≤ 1048576 → short_Var_r FU k v = some (vVs v) := by
 intro k
 induction k with
 | zero => intro v h; omega
 | succ k ih =>
  intro v h hb
  have hl := z_len v
  rw [short_Var_r]
  unfold slices_ContainsFunc_api_Value_api_Value slices_IndexFunc_api_Value_api_Value
  rcases var_L1 (short_Var_r FU k) v hb (fun x hx => by
   have h1 := z_mem hx; have h2 := z_kid x
   exact ih _ (by omega) (by omega)) FU 0 (by unfold FU; omega) (Nat.zero_le _) with ⟨e, j, h1⟩ | ⟨e, h1⟩
  ·rw [List.drop_zero] at e
   rw [show slices_IndexFunc_api_Value_api_Value_L1 FU (short_Var_r FU k) v FU 0 = _ from h1, e, Option.bind_some]
   dsimp only [sumK]
   rw [Option.bind_some, Option.bind_some, decide_eq_true (by omega)]
  ·rw [List.drop_zero] at e
   rw [show slices_IndexFunc_api_Value_api_Value_L1 FU (short_Var_r FU k) v FU 0 = _ from h1, e]
   rfl
theorem var_x (v : List TValue) (hb : zVs v ≤ 1048576) : short_Var FU v = some (vVs v) := var_r FU v (by unfold FU; omega) hb
theorem rep_1 (v : List TValue) : slices_Repeat_api_Value_api_Value FU [v] 1 = some [v] := by kernel_rfl
theorem rep_4 (v : List TValue) : slices_Repeat_api_Value_api_Value FU [v] 4 = some [v, v, v, v] := by kernel_rfl
end Go.Proofs.YtpgflfjmjppmeaaGreatDoor

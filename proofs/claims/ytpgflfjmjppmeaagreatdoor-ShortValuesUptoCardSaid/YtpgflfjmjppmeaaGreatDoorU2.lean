/-
 What Expand comes to. No program in sight.
-/
import Derived.Test.YtpgflfjmjppmeaaGreatDoorU1
set_option linter.unusedVariables false
set_option maxRecDepth 100000
namespace Go.Proofs.YtpgflfjmjppmeaaGreatDoor
open Go Go.V Go.RowKit
def isL (w : Str) : Bool := decide (0 < ln (los w))
def z43 (d : TDecl) : Bool := cond (cst d.Name) true (cond (!(wid d.Value == [])) true (cond (vVs d.Value) true (cond (isL d.Name) false (rgt d.Name d.Value))))
def allV (d : TDecl) : LV := cond (z43 d) (List.replicate (lgs d.Name).1.length d.Value) (cond (isL d.Name) (prt d.Name d.Value) [])
def whl (d : TDecl) : Str := cond (cond (isL d.Name) (vVs d.Value) false) d.Name []
def outL (d : TDecl) : List TLong := List.zipWith (fun n v => TLong.mk n v (whl d)) (lgs d.Name).1 (allV d)
def exA (d : TDecl) : List TLong × Int := cond (chV d.Value != 0) ([], chV d.Value) (cond ((lgs d.Name).2 != 0) ([], (lgs d.Name).2) (cond ((ln (allV d)) == 0) ([], 12) (outL d, 0)))
theorem lgs_los (w : Str) : (isL w = true ∧ (lgs w) = (los w, 0)) ∨ (isL w = false ∧ los w = [] ∧ ((lgs w).2 = 0 → (lgs w).1 = [w])) := by
 unfold isL lgs los
 cases (w == mrg)
 ·cases isShort w
  ·right
   refine ⟨rfl, rfl, fun h => ?_⟩
   simp only [cond_false] at h ⊢
   cases hh : ((inh w).2 != 0)
   ·rfl
   ·rw [hh] at h; cases h
  ·exact Or.inl ⟨rfl, rfl⟩
 ·exact Or.inl ⟨rfl, rfl⟩
theorem los_14 (w : Str) (h : isL w = true) : (los w).length = 1 ∨ (los w).length = 4 := by
 unfold isL los at h
 unfold los
 cases hm : (w == mrg)
 ·rw [hm] at h
  cases hs : isShort w
  ·rw [hs] at h; cases h
  ·exact Or.inl rfl
 ·exact Or.inr rfl
theorem names_14 (w : Str) (h : (lgs w).2 = 0) : (lgs w).1.length = 1 ∨ (lgs w).1.length = 4 := by
 rcases lgs_los w with ⟨h1, h2⟩ | ⟨h1, h2, h3⟩
 ·rw [h2]; exact los_14 w h1
 ·rw [h3 h]; exact Or.inl rfl
theorem rep_x (v : List TValue) (n : Nat) (h : n = 1 ∨ n = 4) : slices_Repeat_api_Value_api_Value FU [v] ((n : Nat) : Int) = some (List.replicate n v) := by
 rcases h with rfl | rfl
 ·exact rep_1 v
 ·exact rep_4 v
theorem all_mem (d : TDecl) (hv : zVs d.Value ≤ 1048576) : ∀ x ∈ allV d, zVs x ≤ 1048576 := by
 unfold allV
 cases z43 d
 ·cases isL d.Name
  ·intro x hx; cases hx
  ·exact prt_mem d.Name d.Value hv
 ·intro x hx
  rw [List.eq_of_mem_replicate hx]
  exact hv
theorem all_len (d : TDecl) (h : (lgs d.Name).2 = 0) : ((ln (allV d)) == 0) = true ∨ (allV d).length = (lgs d.Name).1.length := by
 unfold allV
 cases z43 d
 ·rcases lgs_los d.Name with ⟨h1, h2⟩ | ⟨h1, h2, h3⟩
  ·rw [h1, h2]
   exact prt_len d.Name d.Value
  ·rw [h1]; exact Or.inl rfl
 ·right
  rw [cond_true, List.length_replicate]
theorem ex_L1 (d : TDecl) (y : List Str) (y30 : List Str) (b : Bool) (z : LV) (wh : Str) (hw : cond (cond (decide (0 < (ln y30))) b false) d.Name [] = wh) (hyz : z.length = y.length) (hy : y.length ≤ 10) (hz : ∀ x ∈ z, zVs x ≤ 1048576) : ∀ (kk i : Nat) (v : List TLong), y.length - i < kk → i ≤ y.length → v.length ≤ i →
  short_Expand_L1 FU d (y, 0) y30 b z kk v (i : Int) = some (v ++ List.zipWith (fun n x => TLong.mk n x wh) (y.drop i) (z.drop i)) := by
 have hcw : (cond (cond (decide (0 < (ln y30))) b false) (some d.Name) (some []) : Option Str) = some wh := by
  rw [← hw]
  cases (cond (decide (0 < (ln y30))) b false) <;> rfl
 intro kk
 induction kk with
 | zero => intro i v h; omega
 | succ kk ih =>
  intro i v h hi hv
  rw [short_Expand_L1]
  by_cases h1 : i < y.length
  ·have h2 : i < z.length := by omega
   rw [lt_dec h1, cond_true, chk_ix h1, chk_ix h2, show short_clone FU (gi z (i : Int)) = some (gi z (i : Int)) from clone_r FU fu_lt FU _ (by have := hz _ (gi_mem' h2); unfold FU; omega) (hz _ (gi_mem' h2)), Option.bind_some, hcw, Option.bind_some, chk_pos (by unfold ln; simp only [List.length_cons, List.length_nil]; omega), lt_eq, w64_ix (by omega), ih (i + 1) _ (by omega) (by omega) (by simp only [List.length_append, List.length_cons, List.length_nil]; omega), List.drop_eq_getElem_cons h1, List.drop_eq_getElem_cons h2, List.zipWith_cons_cons, gi_nat z i h2, List.append_assoc]
   rw [show gi (y, (0 : Int)).1 (i : Int) = y[i] from gi_nat y i h1]
   rfl
  ·rw [show decide ((i : Int) < ln (y, (0 : Int)).1) = false from ge_dec (show y.length ≤ i by omega), cond_false, List.drop_eq_nil_of_le (show y.length ≤ i by omega)]
   simp
theorem expand_x (d : TDecl) (hn : d.Name.length ≤ 1048576) (hv : zVs d.Value ≤ 1048576) : short_Expand FU d = some (exA d) := by
 unfold short_Expand exA
 rw [nest_ok FU fu_lt d.Value hv, Option.bind_some]
 cases (chV d.Value != 0)
 rotate_left
 ·rfl
 rw [cond_false, cond_false, longs_p d.Name hn, Option.bind_some]
 by_cases he : (lgs d.Name).2 = 0
 rotate_left
 ·rw [show ((lgs d.Name).2 != 0) = true from bne_iff_ne.2 he]; rfl
 rw [he, show ((0 : Int) != 0) = false from rfl, cond_false, cond_false, of_p d.Name hn, Option.bind_some, var_x d.Value hv, Option.bind_some, cst_p d.Name, Option.bind_some, (wide_ex d.Value hv).1, Option.bind_some, right_p d.Name d.Value hv]
 have hz : (cond (cst d.Name) (some (cst d.Name)) (cond (!(wid d.Value == [])) (some (!(wid d.Value == []))) (cond (vVs d.Value) (some (vVs d.Value)) (Option.bind (cond (!(decide (0 < (ln (los d.Name))))) (some (rgt d.Name d.Value)) (some default)) fun y52 => lt (cond (!(decide (0 < (ln (los d.Name))))) y52 false) fun x53 => some x53))) : Option Bool) = some (z43 d) := by
  unfold z43 isL
  cases cst d.Name <;> cases (!(wid d.Value == [])) <;> cases vVs d.Value <;> cases decide (0 < (ln (los d.Name))) <;> rfl
 rw [hz, Option.bind_some]
 have ha : (cond (z43 d) (Option.bind (slices_Repeat_api_Value_api_Value FU ([d.Value] : LV) (ln (lgs d.Name).1)) fun y67 => some y67) (cond (decide (0 < (ln (los d.Name)))) (Option.bind (short_parts FU d.Name d.Value) fun y78 => some y78) (some ([] : LV))) : Option LV) = some (allV d) := by
  unfold allV
  rw [parts_p d.Name d.Value hn hv, show slices_Repeat_api_Value_api_Value FU ([d.Value] : LV) (ln (lgs d.Name).1) = _ from rep_x d.Value _ (names_14 d.Name he)]
  unfold isL
  cases z43 d <;> cases decide (0 < (ln (los d.Name))) <;> rfl
 rw [ha, Option.bind_some]
 rcases all_len d he with h0 | h0
 ·rw [h0]; rfl
 ·have hpos : ((ln (allV d)) == 0) = false := by
   have := names_14 d.Name he
   exact beq_eq_false_iff_ne.2 (by unfold ln; omega)
  have hl := lgs_len d.Name
  have e := ex_L1 d (lgs d.Name).1 (los d.Name) (vVs d.Value) (allV d) (whl d) rfl h0 (by omega) (all_mem d hv) FU 0 [] (by unfold FU; omega) (Nat.zero_le _) (Nat.zero_le _)
  rw [hpos, cond_false, cond_false, show lgs d.Name = ((lgs d.Name).1, 0) from by rw [← he], show short_Expand_L1 FU d ((lgs d.Name).1, 0) (los d.Name) (vVs d.Value) (allV d) FU [] 0 = _ from e]
  rfl
end Go.Proofs.YtpgflfjmjppmeaaGreatDoor

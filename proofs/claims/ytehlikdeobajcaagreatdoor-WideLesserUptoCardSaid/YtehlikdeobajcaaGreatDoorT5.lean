/-
 The declarations of lesser origins, and what a keyword says. No program in sight.
-/
import Derived.Test.YtehlikdeobajcaaGreatDoorT4
set_option linter.unusedVariables false
set_option maxRecDepth 100000
namespace Go.Proofs.YtehlikdeobajcaaGreatDoor
open Go Go.V Go.RowKit
theorem lesser_L1 (l : List TDeclared) (o : Int) (hs : smalls l) : ∀ (kk i : Nat), l.length - i < kk → i ≤ l.length →
  wide_Lesser_L1 FU l o kk ((l.take i).filter fun d => decide (d.Origin < o)) (i : Int) = some (l.filter fun d => decide (d.Origin < o)) := by
 have hl := hs.1
 intro kk
 induction kk with
 | zero => intro i h; omega
 | succ kk ih =>
  intro i h hi
  rw [wide_Lesser_L1]
  by_cases h1 : i < l.length
  ·have e := filt_succ l (fun d => decide (d.Origin < o)) h1
   have hn : ((l.take i).filter fun d => decide (d.Origin < o)).length ≤ l.length := Nat.le_trans (List.length_filter_le _ _) (by rw [List.length_take]; omega)
   rw [lt_dec h1, cond_true, chk_ix h1, w64_ix (by omega)]
   cases hq : decide ((gi l (i : Int)).Origin < o)
   ·rw [hq, cond_false, List.append_nil] at e
    rw [cond_false, Option.bind_some, ← e]
    exact ih (i + 1) (by omega) (by omega)
   ·have hz := (hs.2 _ (gi_mem' h1)).1
    rw [hq, cond_true] at e
    rw [cond_true, show wide_clone FU (gi l (i : Int)).Long.Value = some (gi l (i : Int)).Long.Value from clone_r FU fu_lt FU _ (by unfold FU; omega) hz, Option.bind_some, chk_pos (by unfold ln; simp only [List.length_cons, List.length_nil]; omega), lt_eq, Option.bind_some]
    show wide_Lesser_L1 FU l o kk (_ ++ [gi l (i : Int)]) _ = _
    rw [← e]
    exact ih (i + 1) (by omega) (by omega)
  ·rw [ge_dec (by omega), cond_false, List.take_of_length_le (by omega)]
theorem lesser_p (l : List TDeclared) (o : Int) (hs : smalls l) (ha : askI l = 0) (ho : 1 ≤ o ∧ o ≤ 3) : wide_Lesser FU l o = some (l.filter fun d => decide (d.Origin < o), 0) := by
 have hl := hs.1
 unfold wide_Lesser
 rw [asked_p l hs, ha, Option.bind_some, bne_self_eq_false, cond_false, lt_eq, decide_eq_false (show ¬ o < 1 from by omega), decide_eq_false (show ¬ 3 < o from by omega), cond_false, cond_false]
 have h : wide_Lesser_L1 FU l o FU [] 0 = some (l.filter fun d => decide (d.Origin < o)) := lesser_L1 l o hs FU 0 (by unfold FU; omega) (Nat.zero_le _)
 rw [h]
 rfl
theorem mean_p (l : List TDeclared) (hs : smalls l) (ha : askI l = 0) (i : Nat) (hi : i < l.length) : wide_Mean FU l (i : Int) [114, 101, 118, 101, 114, 116] = some (ixI (decI 5 l (gi l (i : Int)).Origin (gi l (i : Int)).Long.Name).1, (decI 5 l (gi l (i : Int)).Origin (gi l (i : Int)).Long.Name).2, 0) := by
 have ho := ok_origin (ask_ok ha _ (gi_mem' hi))
 have h1 := decide_i l hs (gi l (i : Int)).Long.Name (gi l (i : Int)).Origin (by omega) (fun d hd => by have := ok_origin (ask_ok ha d hd); omega)
 unfold wide_Mean
 rw [asked_p l hs, ha, Option.bind_some, bne_self_eq_false, cond_false, lt_eq, lt_eq, decide_eq_false (show ¬ (i : Int) < 0 from by omega), decide_eq_false (show ¬ ln l ≤ (i : Int) from by unfold ln; omega), cond_false, cond_false]
 show Option.bind (Option.bind (slices_Contains_string_string 64 words REV) _) _ = _
 rw [cont4]
 have h2 : wide_mean_3 FU l (i : Int) [114, 101, 118, 101, 114, 116] = some (ixI (decI 5 l (gi l (i : Int)).Origin (gi l (i : Int)).Long.Name).1, (decI 5 l (gi l (i : Int)).Origin (gi l (i : Int)).Long.Name).2) := by
  unfold wide_mean_3
  rw [chk_ix hi, h1]
  rfl
 show Option.bind (wide_mean_3 FU l (i : Int) [114, 101, 118, 101, 114, 116]) _ = _
 rw [h2]
 rfl
abbrev bkLo (x : TLong) : Nat := (x.Name.length + 1) + bkL zV x.Value + (x.Whole.length + 1) + 1
abbrev bkW (x : TWeight) : Nat := 1 + 1 + 1 + 1
abbrev bkD (x : TDeclared) : Nat := bkLo x.Long + 1 + 1 + 1 + 1 + bkW x.Weight + 1 + 1
end Go.Proofs.YtehlikdeobajcaaGreatDoor

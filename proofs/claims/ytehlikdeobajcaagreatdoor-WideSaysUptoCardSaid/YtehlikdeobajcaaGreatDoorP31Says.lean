/-
 WideSays: the model comes to 'true' for all declarations and names. No program in sight.
-/
import Derived.Test.YtehlikdeobajcaaGreatDoorT4
set_option linter.unusedVariables false
set_option maxRecDepth 100000
namespace Go.Proofs.YtehlikdeobajcaaGreatDoor
open Go Go.V Go.RowKit
def lastN (l : List TDeclared) (name : Str) : Option Nat := (ixs l (fun d => d.Long.Name == name) l.length).getLast?
theorem last_L1 (l : List TDeclared) (name : Str) (hl : l.length ≤ 1048576) : ∀ (kk i : Nat) (v : Int), l.length - i < kk → i ≤ l.length → v = ixI (ixs l (fun d => d.Long.Name == name) i).getLast? →
  law31_WideSays_L1 FU l name kk v (i : Int) = some (ixI (lastN l name)) := by
 intro kk
 induction kk with
 | zero => intro i v h; omega
 | succ kk ih =>
  intro i v h hi hv
  rw [law31_WideSays_L1]
  by_cases h1 : i < l.length
  ·have e := ixs_succ l (fun d => d.Long.Name == name) i
   rw [lt_dec h1, cond_true, chk_ix h1, w64_ix (by omega)]
   cases hq : ((gi l (i : Int)).Long.Name == name)
   ·rw [hq, cond_false, List.append_nil] at e
    rw [cond_false, Option.bind_some]
    exact ih (i + 1) v (by omega) (by omega) (by rw [e]; exact hv)
   ·rw [hq, cond_true] at e
    rw [cond_true, Option.bind_some]
    exact ih (i + 1) _ (by omega) (by omega) (by rw [e, List.getLast?_concat]; rfl)
  ·rw [ge_dec (by omega), cond_false, hv]
   have : i = l.length := by omega
   subst this
   rfl
theorem lesser_L1 (l : List TDeclared) (o : Int) (hs : smalls l) : ∀ (kk i : Nat), l.length - i < kk → i ≤ l.length →
  wide_Lesser_L1 FU l o kk ((l.take i).filter fun d => decide (d.Origin < o)) (i : Int) = some (l.filter fun d => decide (d.Origin < o)) := by
 have hl := hs.1
 intro kk
 induction kk with
 | zero => intro i h; omega
 | succ kk ih =>
  intro i h hi
  rw [wide_Lesser_L1]
  by_cases h1 : i < l.length
  ·have e := filt_succ l (fun d => decide (d.Origin < o)) h1
   have hn : ((l.take i).filter fun d => decide (d.Origin < o)).length ≤ l.length := Nat.le_trans (List.length_filter_le _ _) (by rw [List.length_take]; omega)
   rw [lt_dec h1, cond_true, chk_ix h1, w64_ix (by omega)]
   cases hq : decide ((gi l (i : Int)).Origin < o)
   ·rw [hq, cond_false, List.append_nil] at e
    rw [cond_false, Option.bind_some, ← e]
    exact ih (i + 1) (by omega) (by omega)
   ·have hz := (hs.2 _ (gi_mem' h1)).1
    rw [hq, cond_true] at e
    rw [cond_true, show wide_clone FU (gi l (i : Int)).Long.Value = some (gi l (i : Int)).Long.Value from clone_r FU fu_lt FU _ (by unfold FU; omega) hz, Option.bind_some, chk_pos (by unfold ln; simp only [List.length_cons, List.length_nil]; omega), lt_eq, Option.bind_some]
    show wide_Lesser_L1 FU l o kk (_ ++ [gi l (i : Int)]) _ = _
    rw [← e]
    exact ih (i + 1) (by omega) (by omega)
  ·rw [ge_dec (by omega), cond_false, List.take_of_length_le (by omega)]
theorem lesser_p (l : List TDeclared) (o : Int) (hs : smalls l) (ha : askI l = 0) (ho : 1 ≤ o ∧ o ≤ 3) : wide_Lesser FU l o = some (l.filter fun d => decide (d.Origin < o), 0) := by
 have hl := hs.1
 unfold wide_Lesser
 rw [asked_p l hs, ha, Option.bind_some, bne_self_eq_false, cond_false, lt_eq, decide_eq_false (show ¬ o < 1 from by omega), decide_eq_false (show ¬ 3 < o from by omega), cond_false, cond_false]
 have h : wide_Lesser_L1 FU l o FU [] 0 = some (l.filter fun d => decide (d.Origin < o)) := lesser_L1 l o hs FU 0 (by unfold FU; omega) (Nat.zero_le _)
 rw [h]
 rfl
theorem filt_less (l : List TDeclared) (o b : Int) (name : Str) (hb : b ≤ o) : (l.filter fun d => decide (d.Origin < o)).filter (pD b name) = l.filter (pD b name) := by
 rw [List.filter_filter]
 congr 1
 funext d
 unfold pD
 by_cases h : d.Origin < b
 ·rw [decide_eq_true (show d.Origin < o from by omega)]; simp
 ·rw [decide_eq_true (show b ≤ d.Origin from by omega)]; cases (d.Long.Name == name) <;> rfl
theorem filt_less4 (l : List TDeclared) (o : Int) (name : Str) (ho : o ≤ 3) : (l.filter fun d => decide (d.Origin < o)).filter (pD 4 name) = l.filter (pD o name) := by
 rw [List.filter_filter]
 congr 1
 funext d
 unfold pD
 by_cases h : d.Origin < o
 ·rw [decide_eq_true h, decide_eq_false (show ¬ o ≤ d.Origin from by omega), decide_eq_false (show ¬ 4 ≤ d.Origin from by omega)]; simp
 ·rw [decide_eq_false h, decide_eq_true (show o ≤ d.Origin from by omega), Bool.and_false]; cases (d.Long.Name == name) <;> rfl
theorem reverted_p (l : List TDeclared) (hs : smalls l) (ha : askI l = 0) (name : Str) (hi : (inh name).2 = 0) (o : Int) (ho : 1 ≤ o ∧ o ≤ 3) (at_ : Int) (r : Option TDeclared) (s : Str)
  (hd : dec 5 l o name = (r, s)) (hr : Rep l at_ r) : law31_reverted FU l o name at_ s = some true := by
 have hl := hs.1
 have h0 : ∀ d ∈ l, 0 ≤ d.Origin := fun d hd => by have := ok_origin (ask_ok ha d hd); omega
 have hso : smalls (l.filter fun d => decide (d.Origin < o)) := ⟨Nat.le_trans (List.length_filter_le _ _) hl, fun d hd => hs.2 d (List.mem_filter.1 hd).1⟩
 unfold law31_reverted
 rw [lesser_p l o hs ha ho, Option.bind_some]
 dsimp only
 rcases Decide_p _ hso name (ask_filter l _ ha) with ⟨h1', h2'⟩ | ⟨hi', a', o', s', h1', h2', h3'⟩
 ·exact absurd hi h2'
 rw [h1', Option.bind_some]
 have he := dec_same l (l.filter fun d => decide (d.Origin < o)) name 5 o 4 (filt_less4 l o name ho.2).symm (fun b hb => (filt_less l o b name (by omega)).symm)
 rw [hd, h2'] at he
 obtain ⟨e1, e2⟩ := Prod.mk.inj he
 subst e1; subst e2
 dsimp only
 cases r with
 | none =>
  have e1 : at_ = -1 := hr
  have e2 : a' = -1 := h3'
  subst e1; subst e2
  simp only [lt_eq, bne_self_eq_false, cond_false, cond_true, Bool.not_true, beq_self_eq_true]
  rfl
 | some d =>
  obtain ⟨i, hi1, rfl, hi3⟩ := hr
  obtain ⟨j, hj1, rfl, hj3⟩ := h3'
  rw [beq_self_eq_true, decide_eq_false (show ¬ ((i : Nat) : Int) < 0 from by omega), decide_eq_false (show ¬ ((j : Nat) : Int) < 0 from by omega)]
  simp only [lt_eq, bne_self_eq_false, cond_false, cond_true, Bool.not_true, beq_self_eq_true, lt_dec hi1, lt_dec hj1]
  have hdm : d ∈ l := by rw [← hi3]; exact gi_mem' hi1
  rw [chk_pos (fun _ => ⟨by omega, by unfold ln; omega⟩), chk_pos (fun _ => ⟨by omega, by unfold ln; omega⟩), hi3, hj3, same_one d (hs.2 d hdm)]
  rfl
theorem lastI_N (l : List TDeclared) (ha : askI l = 0) (name : Str) : lastI l 4 name = lastN l name := by
 unfold lastI lastN ixs
 congr 1
 refine List.filter_congr fun i hi => ?_
 have := ok_origin (ask_ok ha _ (gi_mem' (List.mem_range.1 hi)))
 unfold pD
 rw [decide_eq_false (show ¬ 4 ≤ (gi l (i : Int)).Origin from by omega)]
 show _ = ((gi l (i : Int)).Long.Name == name)
 cases ((gi l (i : Int)).Long.Name == name) <;> rfl
theorem lastN_at {l : List TDeclared} {name : Str} {i : Nat} (h : lastN l name = some i) : i < l.length ∧ (gi l (i : Int)).Long.Name = name := by
 obtain ⟨h1, h2⟩ := List.mem_filter.1 (List.mem_of_getLast? h)
 exact ⟨List.mem_range.1 h1, eq_of_beq h2⟩
theorem mean_p (l : List TDeclared) (hs : smalls l) (ha : askI l = 0) (i : Nat) (hi : i < l.length) : wide_Mean FU l (i : Int) [114, 101, 118, 101, 114, 116] = some (ixI (decI 5 l (gi l (i : Int)).Origin (gi l (i : Int)).Long.Name).1, (decI 5 l (gi l (i : Int)).Origin (gi l (i : Int)).Long.Name).2, 0) := by
 have ho := ok_origin (ask_ok ha _ (gi_mem' hi))
 have h1 := decide_i l hs (gi l (i : Int)).Long.Name (gi l (i : Int)).Origin (by omega) (fun d hd => by have := ok_origin (ask_ok ha d hd); omega)
 unfold wide_Mean
 rw [asked_p l hs, ha, Option.bind_some, bne_self_eq_false, cond_false, lt_eq, lt_eq, decide_eq_false (show ¬ (i : Int) < 0 from by omega), decide_eq_false (show ¬ ln l ≤ (i : Int) from by unfold ln; omega), cond_false, cond_false]
 show Option.bind (Option.bind (slices_Contains_string_string 64 words REV) _) _ = _
 rw [cont4]
 have h2 : wide_mean_3 FU l (i : Int) [114, 101, 118, 101, 114, 116] = some (ixI (decI 5 l (gi l (i : Int)).Origin (gi l (i : Int)).Long.Name).1, (decI 5 l (gi l (i : Int)).Origin (gi l (i : Int)).Long.Name).2) := by
  unfold wide_mean_3
  rw [chk_ix hi, h1]
  rfl
 show Option.bind (wide_mean_3 FU l (i : Int) [114, 101, 118, 101, 114, 116]) _ = _
 rw [h2]
 rfl
theorem says (l : List TDeclared) (name : Str) (hs : smalls l) : law31_WideSays FU l name = some true := by
 have hl := hs.1
 unfold law31_WideSays
 rw [alive_ok, Option.bind_some]
 obtain ⟨g, hg⟩ := great_ex l hs
 rw [hg, Option.bind_some]
 cases g
 rotate_left
 ·rfl
 rw [cond_false, asked_r l hs, Option.bind_some, lt_eq]
 by_cases ha : askI l = 0
 rotate_left
 ·rw [show (askI l != 0) = true from bne_iff_ne.2 ha]; rfl
 rw [ha]
 show cond (cond (decide (200 < ln name)) true (!true)) _ _ = _
 cases decide (200 < ln name)
 rotate_left
 ·rfl
 show (Option.bind (wide_Decide FU l name) _) = _
 have h0 : ∀ d ∈ l, 0 ≤ d.Origin := fun d hd => by have := ok_origin (ask_ok ha d hd); omega
 rcases Decide_i l hs name ha with ⟨h1, h2⟩ | ⟨hi, h1⟩
 ·rw [h1]; rfl
 have hv : law31_WideSays_L1 FU l name FU (-1) 0 = some (ixI (lastN l name)) := last_L1 l name hl FU 0 (-1) (by unfold FU; omega) (Nat.zero_le _) rfl
 have hd : decI 5 l 4 name = match lastN l name with
  | none => (none, uns name)
  | some i => if (gi l (i : Int)).Long.Whole = [] then (if wid (gi l (i : Int)).Long.Value = [] then (some i, []) else if wid (gi l (i : Int)).Long.Value = REV then decI 4 l (gi l (i : Int)).Origin (gi l (i : Int)).Long.Name else if wid (gi l (i : Int)).Long.Value = UNS then (none, uns (gi l (i : Int)).Long.Name) else (none, wid (gi l (i : Int)).Long.Value)) else (some i, []) := by
  rw [decI, lastI_N l ha]
  rfl
 rw [h1, Option.bind_some]
 dsimp only
 rw [bne_self_eq_false, cond_false, hv, Option.bind_some, hd]
 cases hn : lastN l name with
 | none =>
  show Option.bind (law31_word FU name) _ = _
  rw [uns_r, Option.bind_some, lt_eq]
  show some (cond true (uns name == uns name) false) = _
  rw [beq_self_eq_true]
  rfl
 | some i =>
  obtain ⟨hi1, hname⟩ := lastN_at hn
  obtain ⟨w1, w2⟩ := wide_ex _ (hs.2 _ (gi_mem' hi1)).1
  have hm := mean_p l hs ha i hi1
  have ho := ok_origin (ask_ok ha _ (gi_mem' hi1))
  rw [show ixI (some i) = (i : Int) from rfl, decide_eq_false (show ¬ (i : Int) < 0 from by omega), cond_false, chk_ix hi1, w1, Option.bind_some, hm]
  dsimp only
  rw [hname, decI_fuel l h0 4 5 (gi l (i : Int)).Origin name (by omega) (by omega)]
  by_cases hw : (gi l (i : Int)).Long.Whole = []
  ·rw [if_pos hw, hw, beq_self_eq_true, Bool.not_true, cond_false, Option.bind_some, Option.bind_some, bne_self_eq_false, cond_false]
   by_cases z1 : wid (gi l (i : Int)).Long.Value = []
   ·rw [if_pos z1, z1, beq_self_eq_true, cond_true, lt_eq]
    show some (cond (cond true ((i : Int) == (i : Int)) false) (([] : Str) == []) false) = _
    rw [beq_self_eq_true, beq_self_eq_true]
    rfl
   ·rw [if_neg z1, show (wid (gi l (i : Int)).Long.Value == []) = false from beq_eq_false_iff_ne.2 z1, cond_false]
    by_cases z2 : wid (gi l (i : Int)).Long.Value = REV
    ·rw [if_pos z2, z2, show (REV == ([117, 110, 115, 101, 116] : Str)) = false from rfl, show (REV == ([114, 101, 118, 101, 114, 116] : Str)) = true from rfl, cond_false, cond_true, beq_self_eq_true, beq_self_eq_true]
     have hr := reverted_p l hs ha name hi (gi l (i : Int)).Origin ho (ixI (decI 5 l (gi l (i : Int)).Origin name).1) (dec 5 l (gi l (i : Int)).Origin name).1 (decI 5 l (gi l (i : Int)).Origin name).2 (by rw [dec_map]) (rep_of l 5 _ name)
     rw [lt_eq]
     show Option.bind (law31_reverted FU l _ name _ _) _ = _
     rw [hr]
     rfl
    ·rw [if_neg z2]
     by_cases z3 : wid (gi l (i : Int)).Long.Value = UNS
     ·rw [if_pos z3, z3, show (UNS == ([117, 110, 115, 101, 116] : Str)) = true from rfl, cond_true]
      show Option.bind (law31_word FU name) _ = _
      rw [uns_r, Option.bind_some, lt_eq]
      show some (cond true (uns name == uns name) false) = _
      rw [beq_self_eq_true]
      rfl
     ·rw [if_neg z3, show (wid (gi l (i : Int)).Long.Value == ([117, 110, 115, 101, 116] : Str)) = false from beq_eq_false_iff_ne.2 z3, show (wid (gi l (i : Int)).Long.Value == ([114, 101, 118, 101, 114, 116] : Str)) = false from beq_eq_false_iff_ne.2 z2, cond_false, cond_false, lt_eq]
      show some (cond true (wid (gi l (i : Int)).Long.Value == wid (gi l (i : Int)).Long.Value) false) = _
      rw [beq_self_eq_true]
      rfl
  ·rw [if_neg hw, show ((gi l (i : Int)).Long.Whole == []) = false from beq_eq_false_iff_ne.2 hw, Bool.not_false, cond_true, Option.bind_some, Option.bind_some, bne_self_eq_false, cond_false, beq_self_eq_true, cond_true, lt_eq]
   show some (cond (cond true ((i : Int) == (i : Int)) false) (([] : Str) == []) false) = _
   rw [beq_self_eq_true, beq_self_eq_true]
   rfl
abbrev bkLo (x : TLong) : Nat := (x.Name.length + 1) + bkL zV x.Value + (x.Whole.length + 1) + 1
abbrev bkW (x : TWeight) : Nat := 1 + 1 + 1 + 1
abbrev bkD (x : TDeclared) : Nat := bkLo x.Long + 1 + 1 + 1 + 1 + bkW x.Weight + 1 + 1
theorem plain_WideSays (l : List TDeclared) (name : Str) {p q : Prop} (_ : p) (_ : q) (hb : bkL bkD l + (name.length + 1) + 0 ≤ 1048576) : law31_WideSays FU l name = some true := by
 refine says l name ⟨?_, fun d hd => ?_⟩
 ·have := bkL_len (bk := bkD) (fun x => by unfold bkD; omega) l
  omega
 ·have h0 := bkL_mem (bk := bkD) hd
  have h1 : bkD d ≤ 1048576 := by omega
  have h2 : bkL zV d.Long.Value = zVs d.Long.Value + 1 := by rw [z_map]; rfl
  have h3 : (d.Long.Name.length + 1) + bkL zV d.Long.Value + (d.Long.Whole.length + 1) + 1 + 1 + 1 + 1 + 1 + bkW d.Weight + 1 + 1 ≤ 1048576 := h1
  exact ⟨by omega, by omega, by omega⟩
end Go.Proofs.YtehlikdeobajcaaGreatDoor

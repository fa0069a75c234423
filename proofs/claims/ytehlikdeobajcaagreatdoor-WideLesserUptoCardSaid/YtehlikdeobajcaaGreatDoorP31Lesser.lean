/-
 WideLesser: the model comes to 'true' for all declarations and origins. No program in sight.
-/
import Derived.Test.YtehlikdeobajcaaGreatDoorS1
import Derived.Test.YtehlikdeobajcaaGreatDoorT5
set_option linter.unusedVariables false
set_option maxRecDepth 100000
namespace Go.Proofs.YtehlikdeobajcaaGreatDoor
open Go Go.V Go.RowKit
theorem sclone_L1 (m : Nat) (v : List TValue) (rec : List TValue → Option (List TValue)) (hl : zVs v ≤ 1048576) (hr : ∀ x ∈ v, rec x.List_ = some x.List_) :
  ∀ (kk i : Nat), v.length - i < kk → i ≤ v.length → sorter_clone_L1 m v rec kk (v.take i) (i : Int) = some v := by
 have hlen := z_len v
 intro kk
 induction kk with
 | zero => intro i h; omega
 | succ kk ih =>
  intro i h hi
  rw [sorter_clone_L1]
  by_cases h1 : i < v.length
  ·rw [lt_dec h1, cond_true, chk_ix h1, hr _ (gi_mem' h1), Option.bind_some, chk_pos (by unfold ln; rw [List.length_take]; simp only [List.length_cons, List.length_nil]; omega), lt_eq, w64_ix (by omega)]
   have e : v.take i ++ [TValue.mk (gi v (i : Int)).Token (gi v (i : Int)).List_] = v.take (i + 1) := by
    rw [List.take_succ_eq_append_getElem h1, gi_nat v i h1]
    obtain ⟨t, l⟩ := v[i]
    rfl
   rw [e]
   exact ih (i + 1) (by omega) (by omega)
  ·rw [ge_dec (by omega), cond_false, List.take_of_length_le (by omega)]
theorem sclone_r (m : Nat) (hm : 1048577 < m) : ∀ (k : Nat) (v : List TValue), zVs v < k → zVs v ≤ 1048576 → sorter_clone_r m k v = some v := by
 intro k
 induction k with
 | zero => intro v h; omega
 | succ k ih =>
  intro v h hb
  have hl := z_len v
  have hn := sclone_L1 m v (sorter_clone_r m k) hb (fun x hx => by
   have h1 := z_mem hx; have h2 := z_kid x
   exact ih _ (by omega) (by omega)) m 0 (by omega) (by omega)
  rw [List.take_zero] at hn
  rw [sorter_clone_r]
  rw [show (0 : Int) = ((0 : Nat) : Int) from rfl, hn, Option.bind_some]
theorem setl_self (l : List TDeclared) (i : Nat) (hi : i < l.length) : setl l (i : Int) (gi l (i : Int)) = l := by
 unfold setl
 rw [Int.toNat_natCast, gi_nat l i hi, List.set_getElem_self]
theorem sort_L1 (l : List TDeclared) (hs : smalls l) : ∀ (kk i : Nat), l.length - i < kk → i ≤ l.length → sorter_Sort_L1 FU l kk l (i : Int) = some l := by
 have hl := hs.1
 intro kk
 induction kk with
 | zero => intro i h; omega
 | succ kk ih =>
  intro i h hi
  rw [sorter_Sort_L1]
  by_cases h1 : i < l.length
  ·have hz := (hs.2 _ (gi_mem' h1)).1
   have e : setl l (i : Int) (TDeclared.mk (TLong.mk ((gi l (i : Int)).Long.Name) (gi l (i : Int)).Long.Value ((gi l (i : Int)).Long.Whole)) ((gi l (i : Int)).Important) ((gi l (i : Int)).Origin) ((gi l (i : Int)).Attached) ((gi l (i : Int)).Layer) ((gi l (i : Int)).Weight) ((gi l (i : Int)).Order)) = l := setl_self l i h1
   rw [lt_dec h1, cond_true, chk_ix h1, show sorter_clone FU (gi l (i : Int)).Long.Value = some (gi l (i : Int)).Long.Value from sclone_r FU fu_lt FU _ (by unfold FU; omega) hz, Option.bind_some, lt_eq, e, w64_ix (by omega)]
   exact ih (i + 1) (by omega) (by omega)
  ·rw [ge_dec (by omega), cond_false]
theorem scheck_L1 (l : List TDeclared) (hs : smalls l) (ho : ∀ d ∈ l, okD d = true) : ∀ (kk i : Nat), l.length - i < kk → i ≤ l.length → sorter_check_L1 FU l kk (i : Int) = some (.inr ()) := by
 have hl := hs.1
 intro kk
 induction kk with
 | zero => intro i h; omega
 | succ kk ih =>
  intro i h hi
  rw [sorter_check_L1]
  by_cases h1 : i < l.length
  ·have hm := gi_mem' h1
   have e : ckI (gi l (i : Int)) = 0 := by unfold ckI; rw [ho _ hm]; rfl
   rw [lt_dec h1, cond_true, chk_ix h1, check_p _ (hs.2 _ hm), Option.bind_some, e, bne_self_eq_false, cond_false, w64_ix (by omega)]
   exact ih (i + 1) (by omega) (by omega)
  ·rw [ge_dec (by omega), cond_false]
theorem sort_p (l : List TDeclared) (hs : smalls l) (ha : askI l = 0) (h40 : l.length ≤ 40) : sorter_Sort FU l = some (l, 0) := by
 have hl := hs.1
 have hc : sorter_check FU l = some 0 := by
  unfold sorter_check
  rw [show sorter_check_L1 FU l FU 0 = _ from scheck_L1 l hs (ask_ok ha) FU 0 (by unfold FU; omega) (Nat.zero_le _)]
  rfl
 have hk : slices_Clone_api_Declared_api_Declared l = some l := by
  unfold slices_Clone_api_Declared_api_Declared
  rw [chk_pos (by unfold ln; simp only [List.length_nil]; omega), lt_eq, List.nil_append]
 unfold sorter_Sort
 rw [hc, Option.bind_some, bne_self_eq_false, cond_false, hk, Option.bind_some, show sorter_Sort_L1 FU l FU l 0 = _ from sort_L1 l hs FU 0 (by unfold FU; omega) (Nat.zero_le _), Option.bind_some]
 unfold slices_SortStableFunc_api_Declared_api_Declared
 rw [stab_p l (srt_of ha) h40]
 rfl
theorem rsame_L1 (l : List TDeclared) (hs : smalls l) : ∀ (kk i : Nat), l.length - i < kk → i ≤ l.length → r29_Same_L1 FU l l kk (i : Int) = some (.inr ()) := by
 have hl := hs.1
 intro kk
 induction kk with
 | zero => intro i h; omega
 | succ kk ih =>
  intro i h hi
  rw [r29_Same_L1]
  by_cases h1 : i < l.length
  ·rw [lt_dec h1, cond_true, chk_ix h1, chk_ix h1, same_one _ (hs.2 _ (gi_mem' h1)), Option.bind_some, Bool.not_true, cond_false, w64_ix (by omega)]
   exact ih (i + 1) (by omega) (by omega)
  ·rw [ge_dec (by omega), cond_false]
theorem rsame (l : List TDeclared) (hs : smalls l) : r29_Same FU l l = some true := by
 have hl := hs.1
 unfold r29_Same
 rw [bne_self_eq_false, cond_false, show r29_Same_L1 FU l l FU 0 = _ from rsame_L1 l hs FU 0 (by unfold FU; omega) (Nat.zero_le _)]
 rfl
theorem great_inl (l : List TDeclared) : ∀ (kk : Nat) (v i : Int), r29_Great_L1 FU l kk v i ≠ some (.inl false) := by
 intro kk
 induction kk with
 | zero => intro v i h; cases h
 | succ kk ih =>
  intro v i h
  rw [r29_Great_L1, lt_eq] at h
  cases hc : cond (decide (i < ln l)) (decide (i ≤ 40)) false
  ·rw [hc, cond_false] at h
   cases h
  ·rw [hc, cond_true] at h
   obtain ⟨_, h⟩ := chkE h
   obtain ⟨y, _, h⟩ := bindE h
   rw [lt_eq, lt_eq] at h
   cases hd : cond (cond y true (decide (100 < ln (gi l i).Long.Name))) true (decide (100 < ln (gi l i).Long.Whole))
   ·rw [hd, cond_false] at h
    obtain ⟨z, _, h⟩ := bindE h
    exact ih _ _ h
   ·rw [hd, cond_true] at h
    cases h
theorem great_len (l : List TDeclared) (h : r29_Great FU l = some false) : l.length ≤ 40 := by
 unfold r29_Great at h
 obtain ⟨z, h1, h⟩ := bindE h
 cases z with
 | inl b =>
  have hb : b = false := Option.some.inj h
  subst hb
  exact absurd h1 (great_inl l _ _ _)
 | inr n =>
  dsimp only [sumK] at h
  rw [lt_eq] at h
  have hb := Option.some.inj h
  by_cases h4 : (40 : Int) < ln l
  ·rw [decide_eq_true h4] at hb; cases hb
  ·unfold ln at h4; omega
theorem nth_filt (l : List TDeclared) (q : TDeclared → Bool) (i : Nat) (hi : i < l.length) (hq : q (gi l (i : Int)) = true) : ((l.take i).filter q).length < (l.filter q).length ∧ gi (l.filter q) (((l.take i).filter q).length : Int) = gi l (i : Int) := by
 have e : l.filter q = (l.take i).filter q ++ gi l (i : Int) :: (l.drop (i + 1)).filter q := by
  have h1 : l = l.take i ++ l[i] :: l.drop (i + 1) := by rw [← List.drop_eq_getElem_cons hi, List.take_append_drop]
  rw [gi_nat l i hi] at hq ⊢
  conv => lhs; rw [h1]
  rw [List.filter_append, List.filter_cons, hq]
  rfl
 have hl : ((l.take i).filter q).length < (l.filter q).length := by
  rw [e, List.length_append]
  simp only [List.length_cons]
  omega
 refine ⟨hl, ?_⟩
 rw [gi_nat _ _ hl]
 have h2 : ((l.take i).filter q).length < ((l.take i).filter q ++ gi l (i : Int) :: (l.drop (i + 1)).filter q).length := by rw [← e]; exact hl
 have h3 : (l.filter q)[((l.take i).filter q).length] = ((l.take i).filter q ++ gi l (i : Int) :: (l.drop (i + 1)).filter q)[((l.take i).filter q).length] := by
  congr 1
 rw [h3, List.getElem_append_right (Nat.le_refl _)]
 simp
theorem mean_uns (l : List TDeclared) (hs : smalls l) (ha : askI l = 0) (i : Nat) (hi : i < l.length) : wide_Mean FU l (i : Int) [117, 110, 115, 101, 116] = some (-1, uns (gi l (i : Int)).Long.Name, 0) := by
 unfold wide_Mean
 rw [asked_p l hs, ha, Option.bind_some, bne_self_eq_false, cond_false, lt_eq, lt_eq, decide_eq_false (show ¬ (i : Int) < 0 from by omega), decide_eq_false (show ¬ ln l ≤ (i : Int) from by unfold ln; omega), cond_false, cond_false]
 show Option.bind (Option.bind (slices_Contains_string_string 64 words UNS) _) _ = _
 rw [cont4]
 have h2 : wide_mean_3 FU l (i : Int) [117, 110, 115, 101, 116] = some (-1, uns (gi l (i : Int)).Long.Name) := by
  unfold wide_mean_3
  rw [chk_ix hi, uns_p]
  rfl
 show Option.bind (wide_mean_3 FU l (i : Int) [117, 110, 115, 101, 116]) _ = _
 rw [h2]
 rfl
theorem mean_agent (l : List TDeclared) (hs : smalls l) (ha : askI l = 0) (i : Nat) (hi : i < l.length) (ho : (gi l (i : Int)).Origin = 1) : wide_Mean FU l (i : Int) [114, 101, 118, 101, 114, 116] = some (-1, uns (gi l (i : Int)).Long.Name, 0) := by
 have hn : lastI l 1 (gi l (i : Int)).Long.Name = none := by
  cases hc : lastI l 1 (gi l (i : Int)).Long.Name with
  | none => rfl
  | some j =>
   have hd : lastD l 1 (gi l (i : Int)).Long.Name = some (gi l (j : Int)) := by rw [lastI_map, hc]; rfl
   obtain ⟨hm, _, hb⟩ := pD_some hd
   have := ok_origin (ask_ok ha _ hm)
   omega
 rw [mean_p l hs ha i hi, ho, decI, hn]
 rfl
theorem ok_inh {d : TDeclared} (h : okD d = true) : (inh d.Long.Name).2 = 0 := by
 unfold okD at h
 cases h1 : ((inh d.Long.Name).2 != 0)
 ·exact bne_eq_false_iff_eq.1 h1
 ·rw [h1] at h; cases h
theorem uns_is (n : Str) : ((inh n).1 == (uns n == ([105, 110, 104, 101, 114, 105, 116] : Str))) = true := by
 unfold uns
 cases (inh n).1 <;> rfl
theorem lesser2_L1 (l : List TDeclared) (o : Int) (hs : smalls l) (ha : askI l = 0) : ∀ (kk i : Nat), l.length - i < kk → i ≤ l.length →
  law31_WideLesser_L1 FU l o (l.filter fun d => decide (d.Origin < o), 0) kk (((l.take i).filter fun d => decide (d.Origin < o)).length : Int) (i : Int) = some (.inr ((l.filter fun d => decide (d.Origin < o)).length : Int)) := by
 have hl := hs.1
 intro kk
 induction kk with
 | zero => intro i h; omega
 | succ kk ih =>
  intro i h hi
  rw [law31_WideLesser_L1]
  by_cases h1 : i < l.length
  ·have hm := gi_mem' h1
   have e := filt_succ l (fun d => decide (d.Origin < o)) h1
   have hn : ((l.take i).filter fun d => decide (d.Origin < o)).length ≤ l.length := Nat.le_trans (List.length_filter_le _ _) (by rw [List.length_take]; omega)
   -- what is counted
   have first : ∀ K : Int → Option (Sum Bool Int), (Option.bind (Option.bind (chk (0 ≤ (i : Int) ∧ (i : Int) < ln l) <|
     cond (decide (((gi l (i : Int)).Origin) < o)) (
     chk ((decide ((ln (l.filter fun d => decide (d.Origin < o), (0 : Int)).1) ≤ (((l.take i).filter fun d => decide (d.Origin < o)).length : Int))) = false → 0 ≤ (((l.take i).filter fun d => decide (d.Origin < o)).length : Int) ∧ (((l.take i).filter fun d => decide (d.Origin < o)).length : Int) < ln (l.filter fun d => decide (d.Origin < o), (0 : Int)).1) <|
     Option.bind (cond (decide ((ln (l.filter fun d => decide (d.Origin < o), (0 : Int)).1) ≤ (((l.take i).filter fun d => decide (d.Origin < o)).length : Int))) (some default) (r29_SameOne FU (gi (l.filter fun d => decide (d.Origin < o), (0 : Int)).1 (((l.take i).filter fun d => decide (d.Origin < o)).length : Int)) (gi l (i : Int)))) fun y42 =>
     lt (cond (decide ((ln (l.filter fun d => decide (d.Origin < o), (0 : Int)).1) ≤ (((l.take i).filter fun d => decide (d.Origin < o)).length : Int))) true (!y42)) fun x43 =>
     cond x43 (
     some (.inl (.inl (.inl false)))) (
     some (.inr (w64 ((((l.take i).filter fun d => decide (d.Origin < o)).length : Int) + 1))))) (
     some (.inr (((l.take i).filter fun d => decide (d.Origin < o)).length : Int)))) fun (z37 : Sum (Sum (Sum (Bool) (Int)) (Int)) (Int)) => sumK z37 fun s_z37 =>
     chk (0 ≤ (i : Int) ∧ (i : Int) < ln l) <|
     cond (((gi l (i : Int)).Origin) != 1) (
     some (.inr s_z37)) (
     Option.bind (wide_Mean FU l (i : Int) [114, 101, 118, 101, 114, 116]) fun y55 =>
     Option.bind (wide_Mean FU l (i : Int) [117, 110, 115, 101, 116]) fun y58 =>
     Option.bind (props_Inherited 64 ((gi l (i : Int)).Long.Name)) fun y61 =>
     lt (cond (cond (y55.2.2 != 0) true (y58.2.2 != 0)) true (y55.1 != (-1))) fun x64 =>
     lt (cond (cond x64 true (y58.1 != (-1))) true (!(y55.2.1 == y58.2.1))) fun x65 =>
     lt (cond (cond x65 true (y61.2 != 0)) true (!(y61.1 == (y55.2.1 == [105, 110, 104, 101, 114, 105, 116])))) fun x66 =>
     cond x66 (
     some (.inl (.inl false))) (
     some (.inr s_z37)))) fun (z36 : Sum (Sum (Bool) (Int)) (Int)) => sumK z36 fun s_z36 => K s_z36) = K (((l.take (i + 1)).filter fun d => decide (d.Origin < o)).length : Int) := by
    intro K
    have snd : ∀ c : Int, (chk (0 ≤ (i : Int) ∧ (i : Int) < ln l) <|
     cond (((gi l (i : Int)).Origin) != 1) (
     some (.inr c)) (
     Option.bind (wide_Mean FU l (i : Int) [114, 101, 118, 101, 114, 116]) fun y55 =>
     Option.bind (wide_Mean FU l (i : Int) [117, 110, 115, 101, 116]) fun y58 =>
     Option.bind (props_Inherited 64 ((gi l (i : Int)).Long.Name)) fun y61 =>
     lt (cond (cond (y55.2.2 != 0) true (y58.2.2 != 0)) true (y55.1 != (-1))) fun x64 =>
     lt (cond (cond x64 true (y58.1 != (-1))) true (!(y55.2.1 == y58.2.1))) fun x65 =>
     lt (cond (cond x65 true (y61.2 != 0)) true (!(y61.1 == (y55.2.1 == [105, 110, 104, 101, 114, 105, 116])))) fun x66 =>
     cond x66 (
     some (.inl (.inl false))) (
     some (.inr c)))) = (some (.inr c) : Option (Sum (Sum (Bool) (Int)) (Int))) := by
     intro c
     rw [chk_ix h1]
     by_cases ho : (gi l (i : Int)).Origin = 1
     ·rw [show ((gi l (i : Int)).Origin != 1) = false from bne_eq_false_iff_eq.2 ho, cond_false, mean_agent l hs ha i h1 ho, Option.bind_some, mean_uns l hs ha i h1, Option.bind_some, inh_p, Option.bind_some]
      dsimp only
      rw [ok_inh (ask_ok ha _ hm), uns_is, beq_self_eq_true]
      rfl
     ·rw [show ((gi l (i : Int)).Origin != 1) = true from bne_iff_ne.2 ho, cond_true]
    cases hq : decide ((gi l (i : Int)).Origin < o)
    ·rw [hq, cond_false, List.append_nil] at e
     rw [chk_ix h1, cond_false, Option.bind_some, e]
     dsimp only [sumK]
     rw [snd, Option.bind_some]
    ·obtain ⟨q1, q2⟩ := nth_filt l (fun d => decide (d.Origin < o)) i h1 hq
     rw [hq, cond_true] at e
     have hlen : ((l.take (i + 1)).filter fun d => decide (d.Origin < o)).length = ((l.take i).filter fun d => decide (d.Origin < o)).length + 1 := by rw [e, List.length_append]; rfl
     rw [chk_ix h1, cond_true]
     dsimp only
     rw [decide_eq_false (show ¬ ln (l.filter fun d => decide (d.Origin < o)) ≤ (((l.take i).filter fun d => decide (d.Origin < o)).length : Int) by unfold ln; omega), chk_pos (fun _ => ⟨by omega, by unfold ln; omega⟩), cond_false, q2, same_one _ (hs.2 _ hm), Option.bind_some, lt_eq, cond_false, Bool.not_true, cond_false, Option.bind_some, w64_ix (by omega), hlen]
     dsimp only [sumK]
     rw [snd, Option.bind_some]
   rw [lt_dec h1, cond_true, show w64 ((i : Int) + 1) = ((i + 1 : Nat) : Int) from w64_ix (by omega)]
   refine (first (fun z => law31_WideLesser_L1 FU l o (l.filter fun d => decide (d.Origin < o), 0) kk z ((i + 1 : Nat) : Int))).trans ?_
   exact ih (i + 1) (by omega) (by omega)
  ·have : i = l.length := by omega
   subst this
   rw [ge_dec (Nat.le_refl _), cond_false, List.take_length]
theorem lesser_true (l : List TDeclared) (o : Int) (hs : smalls l) : law31_WideLesser FU l o = some true := by
 have hl := hs.1
 unfold law31_WideLesser
 obtain ⟨g, hg⟩ := great_ex l hs
 rw [alive_ok, Option.bind_some, hg, Option.bind_some]
 cases g
 rotate_left
 ·rfl
 rw [cond_false, asked_r l hs, Option.bind_some, lt_eq, lt_eq, cond_false]
 by_cases ha : askI l = 0
 rotate_left
 ·rw [show (askI l != 0) = true from bne_iff_ne.2 ha]; rfl
 rw [ha, bne_self_eq_false, cond_false]
 by_cases h1 : o < 1
 ·rw [decide_eq_true h1]; rfl
 by_cases h2 : 3 < o
 ·rw [decide_eq_true h2]
  cases decide (o < 1) <;> rfl
 have h40 : l.length ≤ 40 := great_len l hg
 have hso : smalls (l.filter fun d => decide (d.Origin < o)) := ⟨Nat.le_trans (List.length_filter_le _ _) hl, fun d hd => hs.2 d (List.mem_filter.1 hd).1⟩
 have hL : law31_WideLesser_L1 FU l o (l.filter fun d => decide (d.Origin < o), 0) FU 0 0 = some (.inr ((l.filter fun d => decide (d.Origin < o)).length : Int)) := lesser2_L1 l o hs ha FU 0 (by unfold FU; omega) (Nat.zero_le _)
 rw [decide_eq_false h1, decide_eq_false h2, cond_false, Bool.not_true, cond_false, cond_false, lesser_p l o hs ha ⟨by omega, by omega⟩, Option.bind_some]
 dsimp only
 rw [bne_self_eq_false, cond_false, hL, Option.bind_some]
 dsimp only [sumK]
 rw [sort_p _ hso (ask_filter l _ ha) (Nat.le_trans (List.length_filter_le _ _) h40), Option.bind_some]
 dsimp only
 rw [show (((l.filter fun d => decide (d.Origin < o)).length : Int) == ln (l.filter fun d => decide (d.Origin < o))) = true from beq_self_eq_true _, show ((0 : Int) == 0) = true from rfl, cond_true, cond_true, lt_eq, cond_true, rsame _ hso]
 rfl
theorem plain_WideLesser (l : List TDeclared) (o : Int) {p q : Prop} (_ : p) (_ : q) (hb : bkL bkD l + 1 + 0 ≤ 1048576) : law31_WideLesser FU l o = some true := by
 refine lesser_true l o ⟨?_, fun d hd => ?_⟩
 ·have := bkL_len (bk := bkD) (fun x => by unfold bkD; omega) l
  omega
 ·have h0 := bkL_mem (bk := bkD) hd
  have h1 : bkD d ≤ 1048576 := by omega
  have h2 : bkL zV d.Long.Value = zVs d.Long.Value + 1 := by rw [z_map]; rfl
  have h3 : (d.Long.Name.length + 1) + bkL zV d.Long.Value + (d.Long.Whole.length + 1) + 1 + 1 + 1 + 1 + 1 + bkW d.Weight + 1 + 1 ≤ 1048576 := h1
  exact ⟨by omega, by omega, by omega⟩
end Go.Proofs.YtehlikdeobajcaaGreatDoor

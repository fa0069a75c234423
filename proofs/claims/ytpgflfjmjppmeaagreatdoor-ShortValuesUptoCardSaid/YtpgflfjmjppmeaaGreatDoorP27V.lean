/-
 ShortValues: the model comes to 'true' for any declaration. No program in sight.
-/
import Derived.Test.YtpgflfjmjppmeaaGreatDoorV1
set_option linter.unusedVariables false
set_option maxRecDepth 100000
namespace Go.Proofs.YtpgflfjmjppmeaaGreatDoor
open Go Go.V Go.RowKit
theorem alive_ok : law27_alive 300 = some true := by kernel_rfl
theorem isL_no {n : Str} (h : isL n = false) : (n == mrg) = false ∧ isShort n = false := by
 unfold isL los at h
 cases h1 : (n == mrg)
 ·cases h2 : isShort n
  ·exact ⟨rfl, rfl⟩
  ·rw [h1, h2] at h; cases h
 ·rw [h1] at h; cases h
theorem find_of {n : Str} (h : (lgs n).2 = 0) (hL : isL n = false) (hc : cst n = false) : (findA n).2 = 0 := by
 have h1 := isL_no hL
 unfold lgs at h
 rw [h1.1, h1.2, cond_false, cond_false] at h
 cases h2 : ((inh n).2 != 0)
 ·have h3 := bne_eq_false_iff_eq.1 h2
  unfold inh at h3
  rw [hc, cond_false] at h3
  cases h4 : ((findA n).2 != 0)
  ·exact bne_eq_false_iff_eq.1 h4
  ·rw [h4] at h3; exact h3
 ·rw [h2] at h; cases h
theorem rgt_parse {n : Str} {a : List TValue} (hf : (findA n).2 = 0) (hz : zVs a ≤ 1048576) (hr : rgt n a = true) : ∃ r, parseval_Parse FU (findA n).1 a = some (r, 0) := by
 obtain ⟨⟨r, e⟩, h⟩ := parse_ex (findA n).1 a hz
 unfold rgt short_right at hr
 rw [find_p, Option.bind_some, show ((findA n).2 != 0) = false from bne_eq_false_iff_eq.2 hf, cond_false, h] at hr
 have he : e = 0 := by
  have : (e == 0) = true := hr
  exact eq_of_beq this
 subst he
 exact ⟨r, h⟩
theorem out_at (d : TDecl) (i : Nat) (hi : i < (lgs d.Name).1.length) (hlen : (allV d).length = (lgs d.Name).1.length) : gi (outL d) (i : Int) = ⟨gi (lgs d.Name).1 (i : Int), gi (allV d) (i : Int), whl d⟩ := by
 have ho : i < (outL d).length := by unfold outL; rw [List.length_zipWith]; omega
 rw [gi_nat _ i ho, gi_nat _ i hi, gi_nat _ i (by omega)]
 simp only [outL, List.getElem_zipWith]
structure Cs (d : TDecl) (n : Str) (a : List TValue) (i : Nat) : Prop where
 c : cst n = false
 w : wid a = []
 v : vVs a = false
 r : rgt n a = true
 f : (findA n).2 = 0
 o : (isL d.Name = false ∧ n = d.Name) ∨ (isL d.Name = true ∧ n = gi (los d.Name) (i : Int) ∧ a = gi (prt d.Name d.Value) (i : Int) ∧ (prt d.Name d.Value).length = (los d.Name).length ∧ i < (los d.Name).length)
theorem cases_at (d : TDecl) (hv : zVs d.Value ≤ 1048576) (he : (lgs d.Name).2 = 0) (i : Nat) (hi : i < (lgs d.Name).1.length) (hlen : (allV d).length = (lgs d.Name).1.length) :
  (gi (allV d) (i : Int) = d.Value ∧ (cst (gi (lgs d.Name).1 (i : Int)) = true ∨ (cst (gi (lgs d.Name).1 (i : Int)) = false ∧ (findA (gi (lgs d.Name).1 (i : Int))).2 = 0 ∧ (wid d.Value ≠ [] ∨ vVs d.Value = true)))) ∨ Cs d (gi (lgs d.Name).1 (i : Int)) (gi (allV d) (i : Int)) i := by
 have hl := lone_lgs he (gi_mem' hi)
 have hz := all_mem d hv _ (gi_mem' (l := allV d) (i := i) (by omega))
 have hl0 : (lgs (gi (lgs d.Name).1 (i : Int))).2 = 0 := by rw [hl.1]
 cases h43 : z43 d
 ·right
  have ha : allV d = cond (isL d.Name) (prt d.Name d.Value) [] := by unfold allV; rw [h43]; rfl
  cases hL : isL d.Name
  ·rw [ha, hL] at hlen
   exact absurd hi (by rw [← hlen]; simp)
  ·rw [hL, cond_true] at ha
   have hcn := hl.2.2.1 hL
   have hvv : vVs d.Value = false := by
    cases hV : vVs d.Value
    ·rfl
    ·unfold z43 at h43
     rw [hV] at h43
     revert h43
     cases cst d.Name <;> cases (!(wid d.Value == [])) <;> intro h43 <;> cases h43
   rcases lgs_los d.Name with ⟨h1, h2⟩ | ⟨h1, _⟩
   rotate_left
   ·rw [hL] at h1; cases h1
   have hg : gi (lgs d.Name).1 (i : Int) = gi (los d.Name) (i : Int) := by rw [h2]
   have hlos : (lgs d.Name).1 = los d.Name := by rw [h2]
   have hpl : (prt d.Name d.Value).length = (los d.Name).length := by rw [← ha, hlen, hlos]
   have hil : i < (los d.Name).length := by rw [← hlos]; exact hi
   have hr := prt_rgt d.Name d.Value i (by omega)
   have hmem : gi (los d.Name) (i : Int) ∈ los d.Name := gi_mem' hil
   have hva : vVs (gi (allV d) (i : Int)) = false := all_P (P := fun x => vVs x = false) d hvv (fun x hx => by
    have : ∀ (l : List TValue), vVs l = false → x ∈ l → vV x = false := by
     intro l
     induction l with
     | nil => intro _ h; cases h
     | cons y r ih =>
      intro h hm
      rw [vVs, Bool.or_eq_false_iff] at h
      rcases List.mem_cons.1 hm with rfl | hm
      ·exact h.1
      ·exact ih h.2 hm
    show vVs [x] = false
    rw [vVs, vVs, this _ hvv hx]
    rfl) _ (gi_mem' (by omega))
   rw [← hg, ← ha] at hr
   exact ⟨hcn, rgt_wid hL (by rw [hg]; exact hmem) hz hr, hva, hr, find_of hl0 hl.2.1 hcn, Or.inr ⟨hL, hg, by rw [ha], hpl, hil⟩⟩
 ·have hav : gi (allV d) (i : Int) = d.Value := by
   have : allV d = List.replicate (lgs d.Name).1.length d.Value := by unfold allV; rw [h43]; rfl
   rw [this]
   exact List.eq_of_mem_replicate (gi_mem' (by rw [List.length_replicate]; exact hi))
  cases hcn : cst (gi (lgs d.Name).1 (i : Int))
  ·have hf := find_of hl0 hl.2.1 hcn
   cases hw : decide (wid d.Value = [])
   ·exact Or.inl ⟨hav, Or.inr ⟨rfl, hf, Or.inl (of_decide_eq_false hw)⟩⟩
   ·cases hV : vVs d.Value
    ·have hw' : wid d.Value = [] := of_decide_eq_true hw
     right
     cases hL : isL d.Name
     ·have hn := hl.2.2.2 hL
      have hr : rgt d.Name d.Value = true := by
       unfold z43 at h43
       rw [← hn, hcn, hw', hV, hn, hL] at h43
       exact h43
      exact ⟨hcn, by rw [hav]; exact hw', by rw [hav]; exact hV, by rw [hn, hav]; exact hr, hf, Or.inl ⟨hL, hn⟩⟩
     ·unfold z43 at h43
      rw [isL_cst hL, hw', hV, hL] at h43
      cases h43
    ·exact Or.inl ⟨hav, Or.inr ⟨rfl, hf, Or.inr rfl⟩⟩
  ·exact Or.inl ⟨hav, Or.inl rfl⟩
theorem values_L1 (d : TDecl) (hn : d.Name.length ≤ 1048576) (hv : zVs d.Value ≤ 1048576) (he : (lgs d.Name).2 = 0) (hc : chV d.Value = 0) (hlen : (allV d).length = (lgs d.Name).1.length) : ∀ (kk i : Nat), (lgs d.Name).1.length - i < kk → i ≤ (lgs d.Name).1.length →
  law27_ShortValues_L1 FU d (outL d, 0) kk (i : Int) = some (.inr ()) := by
 have hl := lgs_len d.Name
 have hol : (outL d).length = (lgs d.Name).1.length := by unfold outL; rw [List.length_zipWith]; omega
 have hsame : r04_Same FU d.Value d.Value = some true := same_r FU fu_lt FU d.Value (by unfold FU; omega) hv
 intro kk
 induction kk with
 | zero => intro i h; omega
 | succ kk ih =>
  intro i h hi
  rw [law27_ShortValues_L1]
  by_cases h1 : i < (lgs d.Name).1.length
  ·have hz := all_mem d hv _ (gi_mem' (l := allV d) (i := i) (by omega))
   have hk := cases_at d hv he i h1 hlen
   rw [show decide ((i : Int) < ln (outL d, (0 : Int)).1) = true from lt_dec (by rw [hol]; exact h1), cond_true, show chk (0 ≤ (i : Int) ∧ (i : Int) < ln (outL d, (0 : Int)).1) = fun k => k from by funext k; exact chk_ix (by rw [hol]; exact h1)]
   dsimp only
   rw [out_at d i h1 hlen]
   dsimp only
   rw [w64_ix (by omega), cst_p, Option.bind_some]
   rcases hk with ⟨ha, hcase⟩ | hcs
   ·rw [ha]
    rcases hcase with h2 | ⟨h2, h3, h4⟩
    ·rw [h2, cond_true, hsame, Option.bind_some, Bool.not_true, cond_false, Option.bind_some]
     exact ih (i + 1) (by omega) (by omega)
    ·rw [h2, cond_false, find_p, Option.bind_some, show ((findA (gi (lgs d.Name).1 (i : Int))).2 != 0) = false from bne_eq_false_iff_eq.2 h3, cond_false, (wide_ex d.Value hv).1, Option.bind_some]
     have hy : ∃ y53 : Bool, (cond (!(wid d.Value == [])) (some (default : Bool)) (short_Var FU d.Value)) = some y53 ∧ cond (!(wid d.Value == [])) true y53 = true := by
      cases hw : (wid d.Value == [])
      ·exact ⟨_, rfl, rfl⟩
      ·rcases h4 with h5 | h5
       ·exact absurd (eq_of_beq hw) h5
       ·exact ⟨true, by rw [Bool.not_true, cond_false, var_x d.Value hv, h5], rfl⟩
     obtain ⟨y53, e1, e2⟩ := hy
     rw [e1, Option.bind_some, e2, cond_true, hsame, Option.bind_some, Bool.not_true, cond_false, Option.bind_some]
     exact ih (i + 1) (by omega) (by omega)
   ·obtain ⟨c1, c2, c3, c4, c5, c6⟩ := hcs
    obtain ⟨r, hp⟩ := rgt_parse c5 hz c4
    have hpart : ∃ x e, short_Part FU d.Name (gi (lgs d.Name).1 (i : Int)) d.Value = some (x, e) ∧ ((gi (lgs d.Name).1 (i : Int) == d.Name) = true ∨ (e = 0 ∧ x = gi (allV d) (i : Int))) := by
     rcases c6 with ⟨o1, o2⟩ | ⟨o1, o2, o3, o4, o5⟩
     ·obtain ⟨e, h5⟩ := part_none d.Name (gi (lgs d.Name).1 (i : Int)) d.Value hn hv o1
      exact ⟨_, _, h5, Or.inl (by rw [o2]; exact beq_self_eq_true _)⟩
     ·have h5 := part_x d.Name d.Value i hn hv hc o1 o5 o4
      rw [← o2, ← o3] at h5
      exact ⟨_, _, h5, Or.inr ⟨rfl, rfl⟩⟩
    obtain ⟨x, e, h5, h6⟩ := hpart
    have hsa : r04_Same FU (gi (allV d) (i : Int)) (gi (allV d) (i : Int)) = some true := same_r FU fu_lt FU _ (by unfold FU; omega) hz
    rw [c1, cond_false, find_p, Option.bind_some, show ((findA (gi (lgs d.Name).1 (i : Int))).2 != 0) = false from bne_eq_false_iff_eq.2 c5, cond_false, (wide_ex _ hz).1, Option.bind_some, c2, show (!(([] : Str) == [])) = false from rfl, cond_false, var_x _ hz, Option.bind_some, c3, cond_false, cond_false, hp, Option.bind_some, h5, Option.bind_some]
    dsimp only
    rw [show ((0 : Int) != 0) = false from rfl, cond_false]
    cases hnn : (gi (lgs d.Name).1 (i : Int) == d.Name)
    ·rcases h6 with h7 | ⟨h7, h8⟩
     ·rw [hnn] at h7; cases h7
     ·subst h7
      rw [h8, show ((0 : Int) != 0) = false from rfl, Bool.not_false, cond_true, cond_false, hsa, Option.bind_some, lt_eq, cond_false, cond_true, cond_false, Bool.not_true, cond_false, Option.bind_some]
      dsimp only [sumK]
      exact ih (i + 1) (by omega) (by omega)
    ·rw [Bool.not_true, cond_false, Option.bind_some, lt_eq, cond_false, cond_false, cond_false, Option.bind_some]
     dsimp only [sumK]
     exact ih (i + 1) (by omega) (by omega)
  ·rw [show decide ((i : Int) < ln (outL d, (0 : Int)).1) = false from ge_dec (by rw [hol]; omega), cond_false]
theorem values_true (d : TDecl) (hd1 : d.Name.length ≤ 1048576) (hd2 : zVs d.Value ≤ 1048576) : law27_ShortValues FU d = some true := by
 unfold law27_ShortValues
 obtain ⟨g, hg⟩ := great_ex d.Value hd2
 rw [alive_ok, Option.bind_some, hg, Option.bind_some, lt_eq]
 cases (cond g true (decide (200 < (ln d.Name))))
 rotate_left
 ·rfl
 rw [cond_false, Bool.not_true, cond_false, expand_x d hd1 hd2, Option.bind_some]
 unfold exA
 by_cases hc : chV d.Value = 0
 rotate_left
 ·rw [show (chV d.Value != 0) = true from bne_iff_ne.2 hc, cond_true]
  dsimp only
  rw [show (chV d.Value != 0) = true from bne_iff_ne.2 hc]
  rfl
 rw [show (chV d.Value != 0) = false from bne_eq_false_iff_eq.2 hc, cond_false]
 by_cases he : (lgs d.Name).2 = 0
 rotate_left
 ·rw [show ((lgs d.Name).2 != 0) = true from bne_iff_ne.2 he, cond_true]
  dsimp only
  rw [show ((lgs d.Name).2 != 0) = true from bne_iff_ne.2 he]
  rfl
 rw [show ((lgs d.Name).2 != 0) = false from bne_eq_false_iff_eq.2 he, cond_false]
 rcases all_len d he with h0 | h0
 ·rw [h0]; rfl
 have h14 := names_14 d.Name he
 rw [show ((ln (allV d)) == 0) = false from beq_eq_false_iff_ne.2 (by unfold ln; omega), cond_false]
 dsimp only
 rw [show ((0 : Int) != 0) = false from rfl, cond_false,
  show law27_ShortValues_L1 FU d (outL d, 0) FU 0 = _ from values_L1 d hd1 hd2 he hc h0 FU 0 (by unfold FU; omega) (Nat.zero_le _)]
 rfl
theorem plain_ShortValues (d : TDecl) {p : Prop} (_ : p) (hb : ((d.Name.length + 1) + bkL zV d.Value + 1 + 1) + 0 ≤ 1048576) : law27_ShortValues FU d = some true := by
 have h : bkL zV d.Value = zVs d.Value + 1 := by rw [z_map]; rfl
 exact values_true d (by omega) (by omega)
end Go.Proofs.YtpgflfjmjppmeaaGreatDoor

/-
 ShortWritten: the model comes to 'true' for any declaration. No program in sight.
-/
import Derived.Test.YtpgflfjmjppmeaaGreatDoorU4
set_option linter.unusedVariables false
set_option maxRecDepth 100000
namespace Go.Proofs.YtpgflfjmjppmeaaGreatDoor
open Go Go.V Go.RowKit
theorem alive_ok : law27_alive 300 = some true := by kernel_rfl
theorem sides_ne : ∀ i : Nat, i < 4 → ∀ k : Nat, k < i → (gi sides (k : Int) == gi sides (i : Int)) = false := by
 intro i hi k hk
 obtain rfl | rfl | rfl | rfl : i = 0 ∨ i = 1 ∨ i = 2 ∨ i = 3 := by omega
 ·omega
 ·obtain rfl : k = 0 := by omega
  rfl
 ·obtain rfl | rfl : k = 0 ∨ k = 1 := by omega
  all_goals rfl
 ·obtain rfl | rfl | rfl : k = 0 ∨ k = 1 ∨ k = 2 := by omega
  all_goals rfl
theorem names_ne (w : Str) (h : (lgs w).2 = 0) (i k : Nat) (hi : i < (lgs w).1.length) (hk : k < i) : (gi (lgs w).1 (k : Int) == gi (lgs w).1 (i : Int)) = false := by
 rcases lgs_los w with ⟨h1, h2⟩ | ⟨h1, h2, h3⟩
 ·rw [h2] at hi ⊢
  dsimp only at hi ⊢
  unfold los at hi ⊢
  cases hm : (w == mrg)
  ·rw [hm, cond_false] at hi
   cases hs : isShort w
   ·rw [hs] at hi; exact absurd hi (by simp)
   ·rw [hs, cond_true] at hi
    simp only [List.length_cons, List.length_nil] at hi
    omega
  ·rw [hm, cond_true] at hi
   rw [cond_true]
   exact sides_ne i hi k hk
 ·rw [h3 h] at hi
  simp only [List.length_cons, List.length_nil] at hi
  omega
theorem wl2 (y : List Str × Int) (i : Nat) (hi : i < y.1.length) (hy : y.1.length ≤ 10) (hne : ∀ k : Nat, k < i → (gi y.1 (k : Int) == gi y.1 (i : Int)) = false) : law27_ShortWritten_L2 FU y (i : Int) FU 0 = some (.inr ()) := by
 have st : ∀ (kk k : Nat), i - k < kk → k ≤ i → law27_ShortWritten_L2 FU y (i : Int) kk (k : Int) = some (.inr ()) := by
  intro kk
  induction kk with
  | zero => intro k h; omega
  | succ kk ih =>
   intro k h hk
   rw [law27_ShortWritten_L2]
   by_cases h1 : k < i
   ·rw [decide_eq_true (show (k : Int) < (i : Int) by omega), cond_true, chk_ix (by omega), hne k h1, cond_false, w64_ix (by omega)]
    exact ih (k + 1) (by omega) (by omega)
   ·rw [decide_eq_false (by omega), cond_false]
 exact st FU 0 (by unfold FU; omega) (Nat.zero_le _)
theorem longs_one (n : Str) (v : List TValue) (hv : zVs v ≤ 1048576) : r27_SameLongs FU [⟨n, v, []⟩] [⟨n, v, []⟩] = some true := by
 have e : r27_SameLongs_L1 FU [⟨n, v, []⟩] [⟨n, v, []⟩] (1099998 + 1 + 1) ((0 : Nat) : Int) = some (.inr ()) := by
  rw [r27_SameLongs_L1, lt_dec (by simp), cond_true, chk_ix (by simp), chk_ix (by simp), show gi ([⟨n, v, []⟩] : List TLong) ((0 : Nat) : Int) = ⟨n, v, []⟩ from rfl, beq_self_eq_true, beq_self_eq_true, Bool.not_true, lt_eq, lt_eq, cond_false, cond_false, show r04_Same FU v v = some true from same_r FU fu_lt FU v (by unfold FU; omega) hv, Option.bind_some, Bool.not_true, cond_false, cond_false, w64_ix (by omega), r27_SameLongs_L1, ge_dec (by simp), cond_false]
 unfold r27_SameLongs
 rw [bne_self_eq_false, cond_false, show r27_SameLongs_L1 FU [⟨n, v, []⟩] [⟨n, v, []⟩] FU 0 = _ from e]
 rfl
theorem out_at (d : TDecl) (i : Nat) (hi : i < (lgs d.Name).1.length) (hlen : (allV d).length = (lgs d.Name).1.length) : gi (outL d) (i : Int) = ⟨gi (lgs d.Name).1 (i : Int), gi (allV d) (i : Int), whl d⟩ := by
 have ho : i < (outL d).length := by unfold outL; rw [List.length_zipWith]; omega
 rw [gi_nat _ i ho, gi_nat _ i hi, gi_nat _ i (by omega)]
 simp only [outL, List.getElem_zipWith]
theorem written_L1 (d : TDecl) (hn : d.Name.length ≤ 1048576) (hv : zVs d.Value ≤ 1048576) (he : (lgs d.Name).2 = 0) (hc : chV d.Value = 0) (hlen : (allV d).length = (lgs d.Name).1.length) : ∀ (kk i : Nat), (lgs d.Name).1.length - i < kk → i ≤ (lgs d.Name).1.length →
  law27_ShortWritten_L1 FU d (outL d, 0) (lgs d.Name) kk (i : Int) = some (.inr ()) := by
 have hl := lgs_len d.Name
 have hol : (outL d).length = (lgs d.Name).1.length := by unfold outL; rw [List.length_zipWith]; omega
 intro kk
 induction kk with
 | zero => intro i h; omega
 | succ kk ih =>
  intro i h hi
  rw [law27_ShortWritten_L1]
  by_cases h1 : i < (lgs d.Name).1.length
  ·have hz := all_mem d hv _ (gi_mem' (l := allV d) (i := i) (by omega))
   have hnl : (gi (lgs d.Name).1 (i : Int)).length ≤ 1048576 := by
    have := lone_lgs he (gi_mem' h1)
    cases hL : isL d.Name
    ·rw [this.2.2.2 hL]; exact hn
    ·rcases lgs_los d.Name with ⟨g1, g2⟩ | ⟨g1, _⟩
     ·have hm := gi_mem' h1
      rw [g2] at hm ⊢
      dsimp only at hm ⊢
      rcases isL_4 g1 with e | e | e | e <;> rw [e] at hm ⊢ <;> exact Nat.le_trans (of_decide_eq_true (List.all_eq_true.1 (show (los _).all (fun x => decide (x.length ≤ 100)) = true from by kernel_rfl) _ hm)) (by decide)
     ·rw [hL] at g1; cases g1
   have hx := expand_x ⟨gi (lgs d.Name).1 (i : Int), gi (allV d) (i : Int), false⟩ hnl hz
   rw [ex_lone d he hc i h1 hlen false] at hx
   rw [show decide ((i : Int) < ln (outL d, (0 : Int)).1) = true from lt_dec (by rw [hol]; exact h1), cond_true, show chk (0 ≤ (i : Int) ∧ (i : Int) < ln (outL d, (0 : Int)).1) = fun k => k from by funext k; exact chk_ix (by rw [hol]; exact h1)]
   rw [chk_ix h1, out_at d i h1 hlen]
   dsimp only
   rw [beq_self_eq_true, Bool.not_true, lt_eq, cond_false, wl2 (lgs d.Name) i h1 (by omega) (fun k hk => names_ne d.Name he i k h1 hk), Option.bind_some]
   dsimp only [sumK]
   rw [hx, Option.bind_some, w64_ix (by omega)]
   dsimp only
   rw [longs_one _ _ hz, var_x d.Value hv]
   cases hw : (whl d == ([] : Str))
   ·have hwl : whl d = d.Name ∧ vVs d.Value = true := by
     unfold whl at hw ⊢
     cases hL : isL d.Name
     ·rw [hL] at hw; cases hw
     ·cases hV : vVs d.Value
      ·rw [hL, hV] at hw; cases hw
      ·exact ⟨rfl, rfl⟩
    rw [Bool.not_false, cond_true, chk_pos (show ((0 : Int) != 0) = false from rfl), Option.bind_some, chk_pos (show (cond ((0 : Int) != 0) true (!true)) = false from rfl), hwl.1, beq_self_eq_true, chk_pos (show (!true) = false from rfl), hwl.2, Option.bind_some]
    exact ih (i + 1) (by omega) (by omega)
   ·rw [Bool.not_true, cond_false, chk_pos (show ((0 : Int) != 0) = false from rfl), Option.bind_some, chk_pos (show (cond ((0 : Int) != 0) true (!true)) = false from rfl)]
    exact ih (i + 1) (by omega) (by omega)
  ·rw [show decide ((i : Int) < ln (outL d, (0 : Int)).1) = false from ge_dec (by rw [hol]; omega), cond_false]
theorem written_true (d : TDecl) (hd1 : d.Name.length ≤ 1048576) (hd2 : zVs d.Value ≤ 1048576) : law27_ShortWritten FU d = some true := by
 unfold law27_ShortWritten
 obtain ⟨g, hg⟩ := great_ex d.Value hd2
 rw [alive_ok, Option.bind_some, hg, Option.bind_some, lt_eq]
 cases (cond g true (decide (200 < (ln d.Name))))
 rotate_left
 ·rfl
 rw [cond_false, Bool.not_true, cond_false, expand_x d hd1 hd2, Option.bind_some]
 unfold exA
 by_cases hc : chV d.Value = 0
 rotate_left
 ·rw [show (chV d.Value != 0) = true from bne_iff_ne.2 hc, cond_true]
  dsimp only
  rw [show (chV d.Value != 0) = true from bne_iff_ne.2 hc]
  rfl
 rw [show (chV d.Value != 0) = false from bne_eq_false_iff_eq.2 hc, cond_false]
 by_cases he : (lgs d.Name).2 = 0
 rotate_left
 ·rw [show ((lgs d.Name).2 != 0) = true from bne_iff_ne.2 he, cond_true]
  dsimp only
  rw [show ((lgs d.Name).2 != 0) = true from bne_iff_ne.2 he]
  rfl
 rw [show ((lgs d.Name).2 != 0) = false from bne_eq_false_iff_eq.2 he, cond_false]
 rcases all_len d he with h0 | h0
 ·rw [h0]; rfl
 have h14 := names_14 d.Name he
 have hol : (outL d).length = (lgs d.Name).1.length := by unfold outL; rw [List.length_zipWith]; omega
 rw [show ((ln (allV d)) == 0) = false from beq_eq_false_iff_ne.2 (by unfold ln; omega), cond_false]
 dsimp only
 rw [show ((0 : Int) != 0) = false from rfl, cond_false, longs_p d.Name hd1, Option.bind_some, show ((lgs d.Name).2 != 0) = false from bne_eq_false_iff_eq.2 he, show ((ln (outL d)) != (ln (lgs d.Name).1)) = false from bne_eq_false_iff_eq.2 (by unfold ln; rw [hol]), lt_eq, show ((ln (outL d)) == 0) = false from beq_eq_false_iff_ne.2 (by unfold ln; omega), cond_false, cond_false, cond_false,
  show law27_ShortWritten_L1 FU d (outL d, 0) (lgs d.Name) FU 0 = _ from written_L1 d hd1 hd2 he hc h0 FU 0 (by unfold FU; omega) (Nat.zero_le _)]
 rfl
theorem plain_ShortWritten (d : TDecl) {p : Prop} (_ : p) (hb : ((d.Name.length + 1) + bkL zV d.Value + 1 + 1) + 0 ≤ 1048576) : law27_ShortWritten FU d = some true := by
 have h : bkL zV d.Value = zVs d.Value + 1 := by rw [z_map]; rfl
 exact written_true d (by omega) (by omega)
end Go.Proofs.YtpgflfjmjppmeaaGreatDoor

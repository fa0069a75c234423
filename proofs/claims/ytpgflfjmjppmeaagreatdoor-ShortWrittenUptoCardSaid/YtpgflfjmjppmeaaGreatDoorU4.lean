/-
 A longhand, declared by itself, is its own longhand. No program in sight.
-/
import Derived.Test.YtpgflfjmjppmeaaGreatDoorU3
set_option linter.unusedVariables false
set_option maxRecDepth 100000
namespace Go.Proofs.YtpgflfjmjppmeaaGreatDoor
open Go Go.V Go.RowKit
theorem le_mem {x : TValue} : ∀ {v : List TValue}, x ∈ v → dpV x ≤ dpVs v ∧ tkV x ≤ tkVs v ∧ (shV 0 x = true → shVs 0 v = true)
 | y :: r, h => by
  rw [dpVs, tkVs, shVs]
  rcases List.mem_cons.1 h with rfl | h
  ·exact ⟨by omega, by omega, fun e => by rw [e]; rfl⟩
  ·have := le_mem h
   exact ⟨by omega, by omega, fun e => by rw [this.2.2 e, Bool.or_true]⟩
theorem chV_iff (l : List TValue) : chV l = 0 ↔ dpVs l ≤ 16 ∧ tkVs l ≤ 1500 ∧ shVs 0 l = false := by
 unfold chV
 by_cases h1 : 16 < dpVs l
 ·rw [if_pos h1]; constructor
  ·intro h; cases h
  ·intro h; omega
 ·rw [if_neg h1]
  by_cases h2 : 1500 < tkVs l
  ·rw [if_pos h2]; constructor
   ·intro h; cases h
   ·intro h; omega
  ·rw [if_neg h2]
   cases h3 : shVs 0 l
   ·exact ⟨fun _ => ⟨by omega, by omega, rfl⟩, fun _ => rfl⟩
   ·constructor
    ·intro h; cases h
    ·intro h; cases h.2.2
theorem chV_part (l : List TValue) (h : chV l = 0) : ∀ x ∈ l, chV [x] = 0 := by
 intro x hx
 have h1 := (chV_iff l).1 h
 have h2 := le_mem hx
 refine (chV_iff [x]).2 ?_
 rw [dpVs, tkVs, shVs, dpVs, tkVs, shVs]
 refine ⟨by omega, by omega, ?_⟩
 cases h3 : shV 0 x
 ·rfl
 ·have := h2.2.2 h3
  rw [h1.2.2] at this; cases this
theorem all_P {P : List TValue → Prop} (d : TDecl) (h0 : P d.Value) (hP : ∀ v ∈ d.Value, P [v]) : ∀ x ∈ allV d, P x := by
 unfold allV
 cases z43 d
 ·cases isL d.Name
  ·intro x hx; cases hx
  ·exact prt_P d.Name d.Value h0 hP
 ·intro x hx
  rw [List.eq_of_mem_replicate hx]
  exact h0
theorem alr_get (y : List Str) (z : LV) : ∀ (k i : Nat), alr y z i k = true → ∀ j : Nat, i ≤ j → j < i + k → rgt (gi y (j : Int)) (gi z (j : Int)) = true
 | 0, i, _, j, h1, h2 => by omega
 | k + 1, i, h, j, h1, h2 => by
  rw [alr, Bool.and_eq_true] at h
  by_cases e : j = i
  ·subst e; exact h.1
  ·exact alr_get y z k (i + 1) h.2 j (by omega) (by omega)
theorem prt_rgt (w : Str) (l : List TValue) (j : Nat) (hj : j < (prt w l).length) : rgt (gi (los w) (j : Int)) (gi (prt w l) (j : Int)) = true := by
 unfold prt at hj ⊢
 cases hn : ((ln (cond (w == mrg) (pt l) [l])) != (ln (los w)))
 ·rw [hn, cond_false] at hj
  rw [cond_false]
  cases ha : alr (los w) (cond (w == mrg) (pt l) [l]) 0 (los w).length
  ·rw [ha] at hj
   exact absurd hj (by simp)
  ·rw [ha, cond_true] at hj
   rw [cond_true]
   have hl := bne_eq_false_iff_eq.1 hn
   unfold ln at hl
   exact alr_get _ _ _ 0 ha j (Nat.zero_le _) (by omega)
 ·rw [hn] at hj
  exact absurd hj (by simp)
theorem z43_lone (d : TDecl) (he : (lgs d.Name).2 = 0) (i : Nat) (hi : i < (lgs d.Name).1.length) (hlen : (allV d).length = (lgs d.Name).1.length) (im : Bool) : z43 ⟨gi (lgs d.Name).1 (i : Int), gi (allV d) (i : Int), im⟩ = true := by
 have hl := lone_lgs he (gi_mem' hi)
 cases hz : z43 d
 ·have ha : allV d = cond (isL d.Name) (prt d.Name d.Value) [] := by unfold allV; rw [hz]; rfl
  cases hL : isL d.Name
  ·rw [ha, hL] at hlen
   exact absurd hi (by rw [← hlen]; simp)
  ·rw [hL, cond_true] at ha
   rcases lgs_los d.Name with ⟨h1, h2⟩ | ⟨h1, _⟩
   rotate_left
   ·rw [hL] at h1; cases h1
   have hr := prt_rgt d.Name d.Value i (by rw [← ha, hlen]; exact hi)
   rw [← ha] at hr
   have hg : gi (lgs d.Name).1 (i : Int) = gi (los d.Name) (i : Int) := by rw [h2]
   unfold z43
   dsimp only
   rw [hl.2.1, hg, hr]
   cases cst (gi (los d.Name) (i : Int)) <;> cases (!(wid (gi (allV d) (i : Int)) == [])) <;> cases vVs (gi (allV d) (i : Int)) <;> rfl
 ·have hv : gi (allV d) (i : Int) = d.Value := by
   have : allV d = List.replicate (lgs d.Name).1.length d.Value := by unfold allV; rw [hz]; rfl
   rw [this]
   exact List.eq_of_mem_replicate (gi_mem' (by rw [List.length_replicate]; exact hi))
  rw [hv]
  cases hL : isL d.Name
  ·rw [hl.2.2.2 hL]
   exact hz
  ·unfold z43 at hz ⊢
   dsimp only
   rw [isL_cst hL, hL] at hz
   rw [hl.2.2.1 hL, hl.2.1]
   revert hz
   cases (!(wid d.Value == [])) <;> cases vVs d.Value <;> intro hz <;> first | rfl | cases hz
theorem ex_lone (d : TDecl) (he : (lgs d.Name).2 = 0) (hc : chV d.Value = 0) (i : Nat) (hi : i < (lgs d.Name).1.length) (hlen : (allV d).length = (lgs d.Name).1.length) (im : Bool) :
  exA ⟨gi (lgs d.Name).1 (i : Int), gi (allV d) (i : Int), im⟩ = ([⟨gi (lgs d.Name).1 (i : Int), gi (allV d) (i : Int), []⟩], 0) := by
 have hl := lone_lgs he (gi_mem' hi)
 have hz := z43_lone d he i hi hlen im
 have hv : chV (gi (allV d) (i : Int)) = 0 := all_P (P := fun x => chV x = 0) d hc (chV_part d.Value hc) _ (gi_mem' (by rw [hlen]; exact hi))
 have h1 := hl.1
 have h2 := hl.2.1
 clear hl hlen hi
 generalize gi (lgs d.Name).1 (i : Int) = n at *
 generalize gi (allV d) (i : Int) = v at *
 unfold exA outL allV whl
 dsimp only
 rw [hv, hz, h1, h2]
 rfl
end Go.Proofs.YtpgflfjmjppmeaaGreatDoor

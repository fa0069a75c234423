/-
 A longhand, declared by itself, is its own longhand. No program in sight.
-/
import Derived.Test.YtpgflfjmjppmeaaGreatDoorU3
set_option linter.unusedVariables false
set_option maxRecDepth 100000
namespace Go.Proofs.YtpgflfjmjppmeaaGreatDoor
open Go Go.V Go.RowKit
theorem all_P {P : List TValue → Prop} (d : TDecl) (h0 : P d.Value) (hP : ∀ v ∈ d.Value, P [v]) : ∀ x ∈ allV d, P x := by
 unfold allV
 cases z43 d
 ·cases isL d.Name
  ·intro x hx; cases hx
  ·exact prt_P d.Name d.Value h0 hP
 ·intro x hx
  rw [List.eq_of_mem_replicate hx]
  exact h0
theorem alr_get (y : List Str) (z : LV) : ∀ (k i : Nat), alr y z i k = true → ∀ j : Nat, i ≤ j → j < i + k → rgt (gi y (j : Int)) (gi z (j : Int)) = true
 | 0, i, _, j, h1, h2 => by omega
 | k + 1, i, h, j, h1, h2 => by
  rw [alr, Bool.and_eq_true] at h
  by_cases e : j = i
  ·subst e; exact h.1
  ·exact alr_get y z k (i + 1) h.2 j (by omega) (by omega)
theorem prt_rgt (w : Str) (l : List TValue) (j : Nat) (hj : j < (prt w l).length) : rgt (gi (los w) (j : Int)) (gi (prt w l) (j : Int)) = true := by
 unfold prt at hj ⊢
 cases hn : ((ln (cond (w == mrg) (pt l) [l])) != (ln (los w)))
 ·rw [hn, cond_false] at hj
  rw [cond_false]
  cases ha : alr (los w) (cond (w == mrg) (pt l) [l]) 0 (los w).length
  ·rw [ha] at hj
   exact absurd hj (by simp)
  ·rw [ha, cond_true] at hj
   rw [cond_true]
   have hl := bne_eq_false_iff_eq.1 hn
   unfold ln at hl
   exact alr_get _ _ _ 0 ha j (Nat.zero_le _) (by omega)
 ·rw [hn] at hj
  exact absurd hj (by simp)
end Go.Proofs.YtpgflfjmjppmeaaGreatDoor

/-
 Longhands, and parts: what they say of themselves. No program in sight.
-/
import Derived.Test.YtpgflfjmjppmeaaGreatDoorU2
set_option linter.unusedVariables false
set_option maxRecDepth 100000
namespace Go.Proofs.YtpgflfjmjppmeaaGreatDoor
open Go Go.V Go.RowKit
theorem short_3 {w : Str} (h : isShort w = true) : w = [98, 111, 114, 100, 101, 114] ∨ w = [111, 117, 116, 108, 105, 110, 101] ∨ w = [98, 97, 99, 107, 103, 114, 111, 117, 110, 100] := by
 unfold isShort at h
 cases h1 : (w == ([98, 111, 114, 100, 101, 114] : Str))
 ·cases h2 : (w == ([111, 117, 116, 108, 105, 110, 101] : Str))
  ·rw [h1, h2] at h
   exact Or.inr (Or.inr (eq_of_beq h))
  ·exact Or.inr (Or.inl (eq_of_beq h2))
 ·exact Or.inl (eq_of_beq h1)
theorem isL_4 {w : Str} (h : isL w = true) : w = mrg ∨ w = [98, 111, 114, 100, 101, 114] ∨ w = [111, 117, 116, 108, 105, 110, 101] ∨ w = [98, 97, 99, 107, 103, 114, 111, 117, 110, 100] := by
 unfold isL los at h
 cases hm : (w == mrg)
 ·rw [hm] at h
  cases hs : isShort w
  ·rw [hs] at h; cases h
  ·exact Or.inr (short_3 hs)
 ·exact Or.inl (eq_of_beq hm)
def lone (n : Str) : Bool := decide (lgs n = ([n], 0)) && !(isL n) && !(cst n)
theorem lone_all : (los mrg).all lone = true ∧ (los [98, 111, 114, 100, 101, 114]).all lone = true ∧ (los [111, 117, 116, 108, 105, 110, 101]).all lone = true ∧ (los [98, 97, 99, 107, 103, 114, 111, 117, 110, 100]).all lone = true := by
 refine ⟨?_, ?_, ?_, ?_⟩
 ·kernel_rfl
 ·kernel_rfl
 ·kernel_rfl
 ·kernel_rfl
theorem lone_of {w n : Str} (h : isL w = true) (hn : n ∈ los w) : lgs n = ([n], 0) ∧ isL n = false ∧ cst n = false := by
 have hl : lone n = true := by
  rcases isL_4 h with e | e | e | e
  ·rw [e] at hn; exact List.all_eq_true.1 lone_all.1 n hn
  ·rw [e] at hn; exact List.all_eq_true.1 lone_all.2.1 n hn
  ·rw [e] at hn; exact List.all_eq_true.1 lone_all.2.2.1 n hn
  ·rw [e] at hn; exact List.all_eq_true.1 lone_all.2.2.2 n hn
 unfold lone at hl
 simp only [Bool.and_eq_true, decide_eq_true_eq, Bool.not_eq_true'] at hl
 exact ⟨hl.1.1, hl.1.2, hl.2⟩
theorem isL_cst {w : Str} (h : isL w = true) : cst w = false := by
 rcases isL_4 h with e | e | e | e <;> rw [e] <;> rfl
theorem lone_lgs {w n : Str} (h : (lgs w).2 = 0) (hn : n ∈ (lgs w).1) : lgs n = ([n], 0) ∧ isL n = false ∧ (isL w = true → cst n = false) ∧ (isL w = false → n = w) := by
 rcases lgs_los w with ⟨h1, h2⟩ | ⟨h1, h2, h3⟩
 ·rw [h2] at hn
  have := lone_of h1 hn
  exact ⟨this.1, this.2.1, fun _ => this.2.2, fun h => by rw [h1] at h; cases h⟩
 ·have h4 := h3 h
  rw [h4, List.mem_singleton] at hn
  subst hn
  exact ⟨Prod.ext h4 h, h1, fun h => (by rw [h1] at h; cases h), fun _ => rfl⟩
theorem gl_P {P : List TValue → Prop} (l : List TValue) (hP : ∀ v ∈ l, P [v]) : ∀ (k i : Nat) (v q : LV), i + k = l.length → (∀ x ∈ v, P x) → gl l k i v = some q → ∀ x ∈ q, P x
 | 0, i, v, q, _, hv, h => by cases h; exact hv
 | k + 1, i, v, q, hik, hv, h => by
  rw [gl] at h
  cases hs : isS l i
  ·rw [hs, cond_false] at h
   cases hq : (cond (decide (0 < i)) (!(isS l (i - 1))) false)
   ·rw [hq, cond_false] at h
    refine gl_P l hP k (i + 1) _ q (by omega) (fun x hx => ?_) h
    rcases List.mem_append.1 hx with h' | h'
    ·exact hv x h'
    ·rw [List.mem_singleton.1 h']
     exact hP _ (gi_mem' (show i < l.length by omega))
   ·rw [hq] at h; cases h
  ·rw [hs, cond_true] at h
   exact gl_P l hP k (i + 1) v q (by omega) hv h
theorem pt_P {P : List TValue → Prop} (l : List TValue) (hP : ∀ v ∈ l, P [v]) : ∀ x ∈ pt l, P x := by
 unfold pt
 cases decide (l.length = 0)
 ·cases (cond (isS l 0) true (isS l (l.length - 1)))
  ·rw [cond_false, cond_false]
   cases hg : gl l l.length 0 [] with
   | none => intro x hx; cases hx
   | some v =>
    have := gl_P l hP l.length 0 [] v (by omega) (fun x hx => by cases hx) hg
    show ∀ x ∈ cond (decide (4 < v.length)) [] (fl4 v), P x
    cases decide (4 < v.length)
    ·exact fl4_mem v this
    ·intro x hx; cases hx
  ·intro x hx; cases hx
 ·intro x hx; cases hx
theorem prt_P {P : List TValue → Prop} (w : Str) (l : List TValue) (h0 : P l) (hP : ∀ v ∈ l, P [v]) : ∀ x ∈ prt w l, P x := by
 have hm : ∀ x ∈ cond (w == mrg) (pt l) [l], P x := by
  cases (w == mrg)
  ·intro x hx; rw [List.mem_singleton.1 hx]; exact h0
  ·exact pt_P l hP
 unfold prt
 cases ((ln (cond (w == mrg) (pt l) [l])) != (ln (los w)))
 ·rw [cond_false]
  cases alr (los w) (cond (w == mrg) (pt l) [l]) 0 (los w).length
  ·intro x hx; cases hx
  ·exact hm
 ·intro x hx; cases hx
end Go.Proofs.YtpgflfjmjppmeaaGreatDoor

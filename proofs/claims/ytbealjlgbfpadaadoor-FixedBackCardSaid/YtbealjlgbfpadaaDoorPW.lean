/-
  Numbers written: what two writers of thousandths print is the same.
-/
import Derived.Test.YtbealjlgbfpadaaDoorPN3
import Derived.KernelRfl
namespace Go.Proofs.YtbealjlgbfpadaaDoor
open Go Go.V
set_option maxRecDepth 100000
/-- The fraction's three digits, in a row of twenty, and as a text. -/
def fracB (f : Nat) : Option (Int × List Int) := fixed_Write_L1 5000 5000 (f : Int) 0 20 [0, 0, 0, 0, 0, 0, 0, 0, 0, 0, 0, 0, 0, 0, 0, 0, 0, 0, 0, 0]
def fracS (f : Nat) : Str := match fracB f with
  | some (i, l) => toB (l.drop i.toNat)
  | none => []
theorem frac_all : ((List.range 1000).all fun f => match fracB f with
    | some (i, l) => decide (16 ≤ i) && decide (i ≤ 20) && decide (l.length = 20)
    | none => false) = true := by kernel_rfl
theorem textL_len (m : Nat) : ∀ (kk : Nat) (v : Str) (a b : Int) (t : Str), r06_Text_L1 m kk v a b = some t → v.length ≤ t.length := by
  intro kk
  induction kk with
  | zero => intro v a b t h; cases h
  | succ kk ih =>
    intro v a b t h
    rw [r06_Text_L1] at h
    cases hd : decide (0 < a) with
    | false => rw [hd] at h; cases h; exact Nat.le_refl _
    | true =>
      rw [hd] at h
      simp only [cond_true] at h
      obtain ⟨_, h⟩ := chkE h
      obtain ⟨y, _, h⟩ := bindE h
      obtain ⟨_, h⟩ := chkE h
      have := ih _ _ _ _ h
      rw [List.length_append] at this
      omega
theorem textL_app (m : Nat) (p : Str) : ∀ (kk : Nat) (v : Str) (a b : Int) (t : Str), r06_Text_L1 m kk v a b = some t → p.length + t.length ≤ 1000000 → r06_Text_L1 m kk (p ++ v) a b = some (p ++ t) := by
  intro kk
  induction kk with
  | zero => intro v a b t h; cases h
  | succ kk ih =>
    intro v a b t h hl
    rw [r06_Text_L1] at h ⊢
    cases hd : decide (0 < a) with
    | false => rw [hd] at h; cases h; rfl
    | true =>
      rw [hd] at h
      simp only [cond_true] at h ⊢
      obtain ⟨h0, h⟩ := chkE h
      obtain ⟨y, hy, h⟩ := bindE h
      obtain ⟨h1, h⟩ := chkE h
      have := textL_len m kk _ _ _ _ h
      rw [List.length_append] at this
      rw [chk_pos h0, hy]
      simp only [Option.bind_some]
      rw [chk_pos (by unfold ln at h1 ⊢; rw [List.length_append]; omega), List.append_assoc]
      exact ih _ _ _ _ h hl
/-- The fraction's text, by both writers. -/
theorem frac_same : ((List.range 1000).all fun f => match fracB f, r06_Text_L1 5000 5000 [46] (f : Int) 100 with
    | some (i, l), some t => cond (Nat.beq f 0) (toB (l.drop i.toNat) == []) (toB (l.drop i.toNat) == t)
    | _, _ => false) = true := by kernel_rfl
end Go.Proofs.YtbealjlgbfpadaaDoor

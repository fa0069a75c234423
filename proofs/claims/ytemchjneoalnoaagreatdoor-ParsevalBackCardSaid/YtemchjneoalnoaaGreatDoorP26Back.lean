/-
 ParsevalBack: the model comes to 'true' for any property and any two values. No program in sight.
-/
import Derived.Test.YtemchjneoalnoaaGreatDoorB3
set_option linter.unusedVariables false
set_option maxRecDepth 100000
namespace Go.Proofs.YtemchjneoalnoaaGreatDoor
open Go Go.V Go.RowKit
abbrev WfV (x : TVal) : Prop := (Lit.int .u8 x.Kind).wf = true ∧ x.Word.length ≤ maxLen ∧ (Lit.int .i64 x.Num).wf = true ∧ WfC x.Color
theorem plain_ParsevalBack (prop : Int) (v w : TVal) (_ : (Lit.int .i64 prop).wf = true) (wv : WfV v) (ww : WfV w) : law26_ParsevalBack 300 prop v w = some true := by
 unfold law26_ParsevalBack
 rw [alive_ok, Option.bind_some, has_same]
 obtain ⟨⟨is, e⟩, hv⟩ := has_tot prop v
 rw [hv, Option.bind_some]
 cases is
 ·have e1 : ∀ b, cond (cond b true (!false)) true (decide (200 < ln w.Word)) = true := fun b => by cases b <;> rfl
  dsimp only
  rw [lt_eq, e1]
  rfl
 ·have e0 := has_zero hv
  subst e0
  obtain ⟨s, w1, r1⟩ := back prop v wv.2.2.2 hv
  dsimp only
  rw [bne_self_eq_false, cond_false, Bool.not_true, cond_false, lt_eq]
  cases hl : decide (200 < ln w.Word)
  ·rw [cond_false, cond_false, w1, Option.bind_some]
   dsimp only
   rw [bne_self_eq_false, cond_false, r1, Option.bind_some, cond_false, Bool.not_true, cond_false, has_same]
   obtain ⟨⟨isw, ew⟩, hw⟩ := has_tot prop w
   rw [hw, Option.bind_some]
   cases isw
   ·rfl
   ·have e0 := has_zero hw
    subst e0
    obtain ⟨t, w2, r2⟩ := back prop w ww.2.2.2 hw
    dsimp only
    rw [Bool.not_true, cond_false, w2, Option.bind_some]
    dsimp only
    rw [beq_self_eq_true, cond_true]
    show lt (cond true ((s == t) == veq v w) false) _ = _
    have he : (s == t) = veq v w := by
     cases h : veq v w with
     | true =>
      have e := (veq_iff v w).1 h
      subst e
      rw [w1] at w2
      rw [(Prod.mk.inj (Option.some.inj w2)).1]
      exact beq_self_eq_true _
     | false =>
      refine beq_eq_false_iff_ne.2 fun e => ?_
      subst e
      rw [(veq_iff v w).2 (reads_inj prop s v w r1 r2)] at h
      cases h
    rw [he, lt_eq, cond_true, beq_self_eq_true]
  ·rfl
end Go.Proofs.YtemchjneoalnoaaGreatDoor

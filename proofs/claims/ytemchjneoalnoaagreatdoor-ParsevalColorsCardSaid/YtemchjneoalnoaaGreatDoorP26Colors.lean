/-
 ParsevalColors: the model comes to 'true' for any two colours. No program in sight.
-/
import Derived.Test.YtemchjneoalnoaaGreatDoorA11
set_option linter.unusedVariables false
namespace Go.Proofs.YtemchjneoalnoaaGreatDoor
open Go Go.V
set_option maxRecDepth 100000
theorem u8_nat {x : Int} (h : (Lit.int .u8 x).wf = true) : ∃ n : Nat, x = (n : Int) ∧ n < 256 := by
 have h0 : IntKind.u8.min ≤ x ∧ x ≤ IntKind.u8.max := by simpa [Lit.wf] using h
 have h1 : 0 ≤ x ∧ x ≤ 255 := ⟨(show IntKind.u8.min = 0 by decide) ▸ h0.1, (show IntKind.u8.max = 255 by decide) ▸ h0.2⟩
 exact ⟨x.toNat, by omega, by omega⟩
abbrev WfC (x : TColor) : Prop := (Lit.int .u8 x.Red).wf = true ∧ (Lit.int .u8 x.Green).wf = true ∧ (Lit.int .u8 x.Blue).wf = true ∧ (Lit.int .u8 x.Alpha).wf = true
theorem alive_ok : law26_alive 300 = some true := by kernel_rfl
theorem c_nat {x : TColor} (w : WfC x) : ∃ r g b a, r < 256 ∧ g < 256 ∧ b < 256 ∧ a < 256 ∧ x = cN r g b a := by
 obtain ⟨w1, w2, w3, w4⟩ := w
 obtain ⟨r, hr1, hr2⟩ := u8_nat w1
 obtain ⟨g, hg1, hg2⟩ := u8_nat w2
 obtain ⟨b, hb1, hb2⟩ := u8_nat w3
 obtain ⟨a, ha1, ha2⟩ := u8_nat w4
 refine ⟨r, g, b, a, hr2, hg2, hb2, ha2, ?_⟩
 obtain ⟨R, G, B, A⟩ := x
 simp only at hr1 hg1 hb1 ha1
 subst hr1; subst hg1; subst hb1; subst ha1
 rfl
theorem col_text {x : TColor} (w : WfC x) : ∃ s v, parseval_Shown 300 x = some s ∧ r04_Of 300 s = some [v] ∧ parseval_color 300 v = some (x, true) := by
 obtain ⟨r, g, b, a, hr, hg, hb, ha, rfl⟩ := c_nat w
 exact color_text r g b a hr hg hb ha
def ceq (c d : TColor) : Bool := ((c.Red == d.Red) && ((c.Green == d.Green) && ((c.Blue == d.Blue) && ((c.Alpha == d.Alpha) && true))))
theorem ceq_iff (c d : TColor) : ceq c d = true ↔ c = d := by
 unfold ceq
 obtain ⟨a1, a2, a3, a4⟩ := c
 obtain ⟨b1, b2, b3, b4⟩ := d
 simp [Bool.and_eq_true]
theorem plain_ParsevalColors (c d : TColor) (wc : WfC c) (wd : WfC d) : law26_ParsevalColors 300 c d = some true := by
 obtain ⟨s, v, s1, s2, s3⟩ := col_text wc
 obtain ⟨t, u, t1, t2, t3⟩ := col_text wd
 have hc : parseval_Color 300 [v] = some (c, 0) := by
  unfold parseval_Color
  rw [show (ln [v] != 1) = false from rfl, cond_false, chk_pos (by unfold ln; simp), show gi [v] (0 : Int) = v from rfl, s3]
  rfl
 have he : (s == t) = ceq c d := by
  cases h : ceq c d with
  | true =>
   have e := (ceq_iff c d).1 h
   subst e
   rw [s1] at t1
   rw [Option.some.inj t1]
   exact beq_self_eq_true _
  | false =>
   refine beq_eq_false_iff_ne.2 fun e => ?_
   subst e
   rw [s2] at t2
   have e2 : v = u := (List.cons.inj (Option.some.inj t2)).1
   subst e2
   rw [s3] at t3
   have e3 : c = d := (Prod.mk.inj (Option.some.inj t3)).1
   rw [(ceq_iff c d).2 e3] at h
   cases h
 unfold law26_ParsevalColors
 rw [alive_ok, Option.bind_some, s1, Option.bind_some, t1, Option.bind_some, s2, Option.bind_some, hc, Option.bind_some]
 show lt (cond (cond true ((0 : Int) == 0) false) (ceq c c) false) _ = _
 rw [(ceq_iff c c).2 rfl, lt_eq]
 show lt (cond true ((s == t) == ceq c d) false) _ = _
 rw [he, lt_eq, cond_true, beq_self_eq_true]
end Go.Proofs.YtemchjneoalnoaaGreatDoor

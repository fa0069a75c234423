/-
 ParsevalKept: the model comes to 'true' for any number and any component values. No program in sight.
-/
import Derived.Test.YtemchjneoalnoaaGreatDoorK2
set_option linter.unusedVariables false
set_option maxRecDepth 100000
namespace Go.Proofs.YtemchjneoalnoaaGreatDoor
open Go Go.V Go.RowKit
theorem maybe_ex (v : TValue) (hv : zV v ≤ 1048576) : ∃ l, parseval_maybe FU v = some l ∧ l.length ≤ 4 ∧ ∀ x ∈ l, WfC x.Color := by
 have ht : v.Token.Text.length ≤ 1048576 ∧ v.Token.Unit.length ≤ 1048576 := by have := z_tok v; omega
 obtain ⟨c, b, h1, hw⟩ := color_ex v hv
 unfold parseval_maybe
 rw [h1, Option.bind_some]
 dsimp only
 have hfst : ∃ q : List TVal, (cond b (chk (ln ([] : List TVal) + ln ([(TVal.mk 7 [] 0 c)] : List TVal) ≤ 1099511627776) (lt (([] : List TVal) ++ ([(TVal.mk 7 [] 0 c)] : List TVal)) fun q36 => some q36)) (some ([] : List TVal)) : Option (List TVal)) = some q ∧ q.length ≤ 1 ∧ ∀ x ∈ q, WfC x.Color := by
  cases b
  ·exact ⟨[], rfl, by decide, fun _ h => by cases h⟩
  ·rw [cond_true, chk_app _ _ _ (by decide) (by simp), lt_eq]
   exact ⟨_, rfl, by simp, fun x h => by rw [List.mem_singleton.1 h]; exact hw⟩
 obtain ⟨q, hq, ql, qw⟩ := hfst
 rw [hq, Option.bind_some]
 have one : ∀ (z : List TVal) (x : TVal), (∀ y ∈ z, WfC y.Color) → WfC x.Color → ∀ y ∈ z ++ [x], WfC y.Color := by
  intro z x h1 h2 y hy
  rcases List.mem_append.1 hy with h | h
  ·exact h1 y h
  ·rw [List.mem_singleton.1 h]; exact h2
 have ln1 : ∀ (z : List TVal) (x : TVal) (k : Nat), z.length ≤ k → (z ++ [x]).length ≤ k + 1 := fun z x k h => by simp only [List.length_append, List.length_cons, List.length_nil]; omega
 cases (v.Token.Kind == 1)
 ·rw [cond_false]
  cases (v.Token.Kind == 12)
  ·rw [cond_false]
   cases (v.Token.Kind == 10)
   ·exact ⟨q, rfl, by omega, qw⟩
   ·rw [cond_true]
    have h2 : ∃ r : List TVal, (cond v.Token.Flag (chk (ln q + ln ([(TVal.mk 6 [] (w64 (Int.tdiv v.Token.Num 1000)) (TColor.mk 0 0 0 0))] : List TVal) ≤ 1099511627776) (lt (q ++ ([(TVal.mk 6 [] (w64 (Int.tdiv v.Token.Num 1000)) (TColor.mk 0 0 0 0))] : List TVal)) fun q132 => some q132)) (some q) : Option (List TVal)) = some r ∧ r.length ≤ 2 ∧ ∀ x ∈ r, WfC x.Color := by
     cases v.Token.Flag
     ·exact ⟨q, rfl, by omega, qw⟩
     ·rw [cond_true, chk_app _ _ _ (by omega) (by simp), lt_eq]
      exact ⟨_, rfl, ln1 _ _ 1 ql, one _ _ qw wf0⟩
    obtain ⟨r, hr, rl, rw'⟩ := h2
    rw [hr, Option.bind_some, chk_app _ _ _ (by omega) (by simp), lt_eq]
    cases (v.Token.Num == 0)
    ·exact ⟨_, rfl, Nat.le_trans (ln1 _ _ 2 rl) (by decide), one _ _ rw' wf0⟩
    ·rw [cond_true, chk_app _ _ _ (Nat.le_trans (ln1 _ _ 2 rl) (by decide)) (by simp), lt_eq]
     exact ⟨_, rfl, ln1 _ _ 3 (ln1 _ _ 2 rl), one _ _ (one _ _ rw' wf0) wf0⟩
  ·obtain ⟨y, hy⟩ := small_ex v.Token.Unit ht.2
   rw [cond_true, hy, Option.bind_some, lt_eq, lt_eq]
   cases (decide (0 < gi ([2, 3, 4, 0] : List Int) (x_key ([[112, 120], [101, 109], [114, 101, 109]] : List Str) y)))
   ·exact ⟨q, rfl, by omega, qw⟩
   ·rw [cond_true, chk_app _ _ _ (by omega) (by simp), lt_eq]
    exact ⟨_, rfl, Nat.le_trans (ln1 _ _ 1 ql) (by decide), one _ _ qw wf0⟩
 ·obtain ⟨y, hy⟩ := small_ex v.Token.Text ht.1
  rw [cond_true, hy, Option.bind_some, chk_app _ _ _ (by omega) (by simp), lt_eq, lt_eq]
  cases (y == [99, 117, 114, 114, 101, 110, 116, 99, 111, 108, 111, 114])
  ·exact ⟨_, rfl, Nat.le_trans (ln1 _ _ 1 ql) (by decide), one _ _ qw wf0⟩
  ·rw [cond_true, chk_app _ _ _ (Nat.le_trans (ln1 _ _ 1 ql) (by decide)) (by simp), lt_eq]
   exact ⟨_, rfl, Nat.le_trans (ln1 _ _ 2 (ln1 _ _ 1 ql)) (by decide), one _ _ (one _ _ qw wf0) wf0⟩
theorem ps_L1 (prop : Int) (l : List TVal) (hl : l.length ≤ 4) : ∀ (kk i : Nat), l.length - i < kk → i ≤ l.length →
  parseval_Parse_L1 FU prop l kk (i : Int) = some (.inr ()) ∨ ∃ x ∈ l, parseval_Parse_L1 FU prop l kk (i : Int) = some (.inl (x, 0)) ∧ props_Has 64 prop x = some (true, 0) := by
 intro kk
 induction kk with
 | zero => intro i h; omega
 | succ kk ih =>
  intro i h hi
  rw [parseval_Parse_L1]
  by_cases h1 : i < l.length
  ·obtain ⟨⟨is, e⟩, hx⟩ := has_tot prop (gi l (i : Int))
   rw [lt_dec h1, cond_true, chk_ix h1, hx, Option.bind_some]
   dsimp only
   cases is
   ·rw [cond_false, w64_ix (by omega)]
    exact ih (i + 1) (by omega) (by omega)
   ·have := has_zero hx
    subst this
    exact Or.inr ⟨_, gi_mem' h1, rfl, hx⟩
  ·rw [ge_dec (by omega), cond_false]
   exact Or.inl rfl
abbrev zero : TVal := TVal.mk 0 [] 0 (TColor.mk 0 0 0 0)
def outB (prop : Int) : Bool := cond (decide (prop < 0)) true (decide (18 ≤ prop))
theorem parse_ex (prop : Int) (l : List TValue) (hl : zVs l ≤ 1048576) : (∃ x, parseval_Parse FU prop l = some (x, 0) ∧ props_Has 64 prop x = some (true, 0) ∧ WfC x.Color) ∨ parseval_Parse FU prop l = some (zero, cond (outB prop) 2 12) := by
 unfold parseval_Parse
 rw [lt_eq]
 show (∃ x, cond (outB prop) _ _ = _ ∧ _) ∨ cond (outB prop) _ _ = _
 cases ho : outB prop
 ·rw [cond_false, cond_false]
  by_cases h1 : ln l = 1
  ·have hlen : 0 < l.length := by unfold ln at h1; omega
   have hm := gi_mem' (l := l) (i := 0) hlen
   have hz := z_mem hm
   obtain ⟨q, hq, ql, qw⟩ := maybe_ex (gi l ((0 : Nat) : Int)) (by omega)
   rw [h1, bne_self_eq_false, cond_false, chk_pos ⟨by decide, by decide⟩, show parseval_maybe FU (gi l (0 : Int)) = some q from hq, Option.bind_some]
   rcases ps_L1 prop q ql FU 0 (by unfold FU; omega) (Nat.zero_le _) with h | ⟨x, hx, h, hh⟩
   ·right
    rw [show parseval_Parse_L1 FU prop q FU 0 = _ from h]
    rfl
   ·left
    rw [show parseval_Parse_L1 FU prop q FU 0 = _ from h]
    exact ⟨x, rfl, hh, qw x hx⟩
  ·right
   rw [show (ln l != 1) = true from bne_iff_ne.2 h1]
   rfl
 ·exact Or.inr rfl
theorem plain_ParsevalKept (prop : Int) (l : List TValue) {p q : Prop} (_ : p) (_ : q) (hb : 1 + bkL zV l + 0 ≤ 1048576) : law26_ParsevalKept FU prop l = some true := by
 have hz : zVs l ≤ 1048576 := by
  have : bkL zV l = zVs l + 1 := by rw [z_map]; rfl
  omega
 unfold law26_ParsevalKept
 rw [alive_ok, Option.bind_some]
 obtain ⟨g, hg⟩ := great_ex l hz
 rw [hg, Option.bind_some]
 cases g
 rotate_left
 ·rfl
 rw [cond_false, Bool.not_true, cond_false]
 rcases parse_ex prop l hz with ⟨x, h1, h2, h3⟩ | h
 ·obtain ⟨s, w1, r1⟩ := back prop x h3 h2
  rw [h1, Option.bind_some]
  dsimp only
  rw [bne_self_eq_false, cond_false, h2, Option.bind_some, w1, Option.bind_some]
  dsimp only
  rw [beq_self_eq_true, cond_true, cond_true, lt_eq, cond_true, r1, cond_true, Option.bind_some, lt_eq]
  rfl
 ·rw [h, Option.bind_some]
  dsimp only
  have e : ((cond (outB prop) (2 : Int) 12) == 2) = outB prop := by cases outB prop <;> rfl
  have e0 : ((cond (outB prop) (2 : Int) 12) != 0) = true := by cases outB prop <;> rfl
  rw [e0, cond_true]
  show lt true (fun x23 => lt (cond x23 (((cond (outB prop) (2 : Int) 12) == 2) == outB prop) false) fun x24 => some x24) = _
  rw [e, lt_eq, cond_true, lt_eq, beq_self_eq_true]
end Go.Proofs.YtemchjneoalnoaaGreatDoor

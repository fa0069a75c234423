/-
 ParsevalCase: the model comes to 'true' for any number, any component values and any index. No program in sight.
-/
import Derived.Test.YtemchjneoalnoaaGreatDoorC2
set_option linter.unusedVariables false
set_option maxRecDepth 100000
namespace Go.Proofs.YtemchjneoalnoaaGreatDoor
open Go Go.V Go.RowKit
theorem maybe_ex (v : TValue) (hv : zV v ≤ 1048576) : ∃ l, parseval_maybe FU v = some l ∧ l.length ≤ 4 := by
 have ht : v.Token.Text.length ≤ 1048576 ∧ v.Token.Unit.length ≤ 1048576 := by have := z_tok v; omega
 obtain ⟨c, b, h1, hw⟩ := color_ex v hv
 unfold parseval_maybe
 rw [h1, Option.bind_some]
 dsimp only
 have hfst : ∃ q : List TVal, (cond b (chk (ln ([] : List TVal) + ln ([(TVal.mk 7 [] 0 c)] : List TVal) ≤ 1099511627776) (lt (([] : List TVal) ++ ([(TVal.mk 7 [] 0 c)] : List TVal)) fun q36 => some q36)) (some ([] : List TVal)) : Option (List TVal)) = some q ∧ q.length ≤ 1 := by
  cases b
  ·exact ⟨[], rfl, by decide⟩
  ·rw [cond_true, chk_app _ _ _ (by decide) (by simp), lt_eq]
   exact ⟨_, rfl, by simp⟩
 obtain ⟨q, hq, ql⟩ := hfst
 rw [hq, Option.bind_some]
 have ln1 : ∀ (z : List TVal) (x : TVal) (k : Nat), z.length ≤ k → (z ++ [x]).length ≤ k + 1 := fun z x k h => by simp only [List.length_append, List.length_cons, List.length_nil]; omega
 cases (v.Token.Kind == 1)
 ·rw [cond_false]
  cases (v.Token.Kind == 12)
  ·rw [cond_false]
   cases (v.Token.Kind == 10)
   ·exact ⟨q, rfl, by omega⟩
   ·rw [cond_true]
    have h2 : ∃ r : List TVal, (cond v.Token.Flag (chk (ln q + ln ([(TVal.mk 6 [] (w64 (Int.tdiv v.Token.Num 1000)) (TColor.mk 0 0 0 0))] : List TVal) ≤ 1099511627776) (lt (q ++ ([(TVal.mk 6 [] (w64 (Int.tdiv v.Token.Num 1000)) (TColor.mk 0 0 0 0))] : List TVal)) fun q132 => some q132)) (some q) : Option (List TVal)) = some r ∧ r.length ≤ 2 := by
     cases v.Token.Flag
     ·exact ⟨q, rfl, by omega⟩
     ·rw [cond_true, chk_app _ _ _ (by omega) (by simp), lt_eq]
      exact ⟨_, rfl, ln1 _ _ 1 ql⟩
    obtain ⟨r, hr, rl⟩ := h2
    rw [hr, Option.bind_some, chk_app _ _ _ (by omega) (by simp), lt_eq]
    cases (v.Token.Num == 0)
    ·exact ⟨_, rfl, Nat.le_trans (ln1 _ _ 2 rl) (by decide)⟩
    ·rw [cond_true, chk_app _ _ _ (Nat.le_trans (ln1 _ _ 2 rl) (by decide)) (by simp), lt_eq]
     exact ⟨_, rfl, ln1 _ _ 3 (ln1 _ _ 2 rl)⟩
  ·obtain ⟨y, hy⟩ := small_ex v.Token.Unit ht.2
   rw [cond_true, hy, Option.bind_some, lt_eq, lt_eq]
   cases (decide (0 < gi ([2, 3, 4, 0] : List Int) (x_key ([[112, 120], [101, 109], [114, 101, 109]] : List Str) y)))
   ·exact ⟨q, rfl, by omega⟩
   ·rw [cond_true, chk_app _ _ _ (by omega) (by simp), lt_eq]
    exact ⟨_, rfl, Nat.le_trans (ln1 _ _ 1 ql) (by decide)⟩
 ·obtain ⟨y, hy⟩ := small_ex v.Token.Text ht.1
  rw [cond_true, hy, Option.bind_some, chk_app _ _ _ (by omega) (by simp), lt_eq, lt_eq]
  cases (y == [99, 117, 114, 114, 101, 110, 116, 99, 111, 108, 111, 114])
  ·exact ⟨_, rfl, Nat.le_trans (ln1 _ _ 1 ql) (by decide)⟩
  ·rw [cond_true, chk_app _ _ _ (Nat.le_trans (ln1 _ _ 1 ql) (by decide)) (by simp), lt_eq]
   exact ⟨_, rfl, Nat.le_trans (ln1 _ _ 2 (ln1 _ _ 1 ql)) (by decide)⟩
theorem ps_L1 (prop : Int) (l : List TVal) (hl : l.length ≤ 4) : ∀ (kk i : Nat), l.length - i < kk → i ≤ l.length → ∃ z, parseval_Parse_L1 FU prop l kk (i : Int) = some z := by
 intro kk
 induction kk with
 | zero => intro i h; omega
 | succ kk ih =>
  intro i h hi
  rw [parseval_Parse_L1]
  by_cases h1 : i < l.length
  ·obtain ⟨⟨is, e⟩, hx⟩ := has_tot prop (gi l (i : Int))
   rw [lt_dec h1, cond_true, chk_ix h1, hx, Option.bind_some]
   dsimp only
   cases is
   ·rw [cond_false, w64_ix (by omega)]
    exact ih (i + 1) (by omega) (by omega)
   ·exact ⟨_, rfl⟩
  ·rw [ge_dec (by omega), cond_false]
   exact ⟨_, rfl⟩
theorem parse_ex (prop : Int) (l : List TValue) (hl : zVs l ≤ 1048576) : ∃ r, parseval_Parse FU prop l = some r := by
 unfold parseval_Parse
 rw [lt_eq]
 cases (cond (decide (prop < 0)) true (decide (18 ≤ prop)))
 ·rw [cond_false]
  by_cases h1 : ln l = 1
  ·have hlen : 0 < l.length := by unfold ln at h1; omega
   have hm := gi_mem' (l := l) (i := 0) hlen
   have hz := z_mem hm
   obtain ⟨q, hq, ql⟩ := maybe_ex (gi l ((0 : Nat) : Int)) (by omega)
   rw [h1, bne_self_eq_false, cond_false, chk_pos ⟨by decide, by decide⟩, show parseval_maybe FU (gi l (0 : Int)) = some q from hq, Option.bind_some]
   obtain ⟨z, h⟩ := ps_L1 prop q ql FU 0 (by unfold FU; omega) (Nat.zero_le _)
   rw [show parseval_Parse_L1 FU prop q FU 0 = _ from h]
   cases z <;> exact ⟨_, rfl⟩
  ·rw [show (ln l != 1) = true from bne_iff_ne.2 h1]
   exact ⟨_, rfl⟩
 ·exact ⟨_, rfl⟩
theorem same_val (a : TVal) : ((a.Kind == a.Kind) && ((a.Word == a.Word) && ((a.Num == a.Num) && (((a.Color.Red == a.Color.Red) && ((a.Color.Green == a.Color.Green) && ((a.Color.Blue == a.Color.Blue) && ((a.Color.Alpha == a.Color.Alpha) && true)))) && true)))) = true := by
 simp only [beq_self_eq_true, Bool.and_self]
theorem plain_ParsevalCase (prop : Int) (l : List TValue) (at_ : Int) {p q r : Prop} (_ : p) (_ : q) (_ : r) (hb : 1 + bkL zV l + 1 + 0 ≤ 1048576) : law26_ParsevalCase FU prop l at_ = some true := by
 have hz : zVs l ≤ 1048574 := by
  have : bkL zV l = zVs l + 1 := by rw [z_map]; rfl
  omega
 unfold law26_ParsevalCase
 rw [alive_ok, Option.bind_some]
 obtain ⟨g, hg⟩ := great_ex l (by omega)
 rw [hg, Option.bind_some, lt_eq]
 cases g
 rotate_left
 ·rfl
 by_cases h1 : ln l = 1
 rotate_left
 ·rw [show (ln l != 1) = true from bne_iff_ne.2 h1]
  rfl
 rw [h1, bne_self_eq_false, cond_false, cond_false, Bool.not_true, cond_false]
 obtain ⟨x, hx⟩ : ∃ x, l = [x] := by
  match l, h1 with
  | [x], _ => exact ⟨x, rfl⟩
  | [], h => exact absurd h (by decide)
  | _ :: _ :: _, h => exact absurd h (by unfold ln; simp only [List.length_cons]; omega)
 subst hx
 obtain ⟨v, hv⟩ := parse_ex prop [x] (by omega)
 have hzx : zV x ≤ 1048574 := by
  have : zV x ≤ zVs [x] := z_mem List.mem_cons_self
  omega
 have hzk := z_kid x
 have hzl := z_len x.List_
 rw [hv, Option.bind_some, twin_x [x] (by omega), Option.bind_some, chk_pos ⟨by decide, (show (0 : Int) < ((1 : Nat) : Int) from by decide)⟩, show gi [x] (0 : Int) = x from rfl]
 obtain ⟨⟨k, t, n, u, f⟩, L⟩ := x
 have htk : t.length + u.length + zVs L + 8 ≤ 1048574 := by
  simp only [zV, zT] at hzx
  omega
 dsimp only [TValue.Token, TValue.List_] at hzk hzl ⊢
 rw [up_x t (by omega), Option.bind_some, up_x u (by omega), Option.bind_some, lt_eq]
 have hp : parseval_Parse FU prop [TValue.mk (TToken.mk k (t.map up) n (u.map up) f) L] = some v := by
  rw [← hv]
  exact parse_eq prop _ _ (maybe_eq k n t _ u _ f L L (by omega) (lo_up t) (by rw [List.length_map]; omega) (by omega) (by rw [List.length_map]; omega) (lo_up u) rfl)
 rw [chk_pos ⟨by decide, (show (0 : Int) < ((1 : Nat) : Int) from by decide)⟩, lt_eq]
 show Option.bind (parseval_Parse FU prop [TValue.mk (TToken.mk k (t.map up) n (u.map up) f) L]) _ = _
 rw [hp, Option.bind_some, same_val, lt_eq, Bool.not_true, cond_false, bne_self_eq_false, cond_false, chk_pos ⟨by decide, (show (0 : Int) < ((1 : Nat) : Int) from by decide)⟩, lt_eq, lt_eq]
 show cond (cond (cond (k != 2) true (decide (at_ < 0))) true (decide (ln L < at_))) _ _ = _
 cases hc : (cond (cond (k != 2) true (decide (at_ < 0))) true (decide (ln L < at_)))
 rotate_left
 ·rfl
 have ha : 0 ≤ at_ ∧ at_ ≤ ln L := by
  revert hc
  cases (k != 2)
  ·rw [cond_false]
   by_cases h0 : at_ < 0
   ·rw [decide_eq_true h0]; intro h; cases h
   ·by_cases h2 : ln L < at_
    ·rw [decide_eq_true h2, decide_eq_false h0]; intro h; cases h
    ·intro _; omega
  ·intro h; cases h
 have hL : L.length ≤ 1048570 := by omega
 clear hzx hzk
 obtain ⟨i, hi⟩ : ∃ i : Nat, at_ = (i : Int) := ⟨at_.toNat, by omega⟩
 subst hi
 have hiL : i ≤ L.length := by unfold ln at ha; omega
 have s1 : subl L (0 : Int) (i : Int) = L.take i := by unfold subl; simp
 have s2 : subl L (i : Int) (ln L) = L.drop i := by
  unfold subl ln
  simp only [Int.toNat_natCast]
  exact List.take_of_length_le (by rw [List.length_drop]; omega)
 have hlt : ln (L.take i) = (i : Int) := by unfold ln; rw [List.length_take, Nat.min_eq_left hiL]
 have hld : ln (L.drop i) = ((L.length - i : Nat) : Int) := by unfold ln; rw [List.length_drop]
 rw [cond_false, Option.bind_some, chk_pos ⟨by decide, (show (0 : Int) < ((1 : Nat) : Int) from by decide)⟩]
 show chk ((0 : Int) ≤ 0 ∧ (0 : Int) ≤ (i : Int) ∧ (i : Int) ≤ ln L) (lt (subl L (0 : Int) (i : Int)) _) = _
 rw [chk_pos ⟨by decide, ha.1, ha.2⟩, s1, lt_eq, chk_pos (by rw [hlt]; unfold ln; simp only [List.length_nil]; omega), lt_eq, List.nil_append,
  chk_pos (by rw [hlt]; unfold ln; simp only [List.length_cons, List.length_nil]; omega), lt_eq]
 show chk ((0 : Int) ≤ (i : Int) ∧ (i : Int) ≤ ln L ∧ ln L ≤ ln L) (lt (subl L (i : Int) (ln L)) _) = _
 rw [chk_pos ⟨ha.1, ha.2, Int.le_refl _⟩, s2, lt_eq,
  chk_pos (by rw [hld]; unfold ln; simp only [List.length_append, List.length_take, List.length_cons, List.length_nil]; omega), lt_eq, lt_eq]
 have hp2 : parseval_Parse FU prop [TValue.mk (TToken.mk k t n u f) (L.take i ++ [TValue.mk (TToken.mk 13 [] 0 [] false) []] ++ L.drop i)] = some v := by
  rw [← hv]
  refine parse_eq prop _ _ (maybe_eq k n t t u u f L _ (by omega) rfl (by omega) (by omega) (by omega) rfl ?_)
  rw [List.append_assoc]
  show parseval_rgb FU (L.take i ++ TValue.mk (TToken.mk 13 [] 0 [] false) [] :: L.drop i) = _
  rw [rgb_sp _ _ _ rfl (by rw [List.take_append_drop]; omega), List.take_append_drop]
 show Option.bind (parseval_Parse FU prop [TValue.mk (TToken.mk k t n u f) (L.take i ++ [TValue.mk (TToken.mk 13 [] 0 [] false) []] ++ L.drop i)]) _ = _
 rw [hp2, Option.bind_some, same_val, lt_eq, cond_true, cond_true, beq_self_eq_true]
end Go.Proofs.YtemchjneoalnoaaGreatDoor

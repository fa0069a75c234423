/-
 Both readers agree whether a value is right for a property. No program in sight.
-/
import Derived.Test.YtpgflfjmjppmeaaGreatDoorT6
set_option linter.unusedVariables false
set_option maxRecDepth 100000
namespace Go.Proofs.YtpgflfjmjppmeaaGreatDoor
open Go Go.V Go.RowKit
theorem hd_ex (c : TColor) (b : Bool) : (cond b (chk (ln ([] : List TVal) + ln ([(TVal.mk 7 [] 0 c)] : List TVal) ≤ 1099511627776) (lt (([] : List TVal) ++ ([(TVal.mk 7 [] 0 c)] : List TVal)) fun q36 => some q36)) (some ([] : List TVal)) : Option (List TVal)) = some (hd c b) := by
 cases b
 ·rfl
 ·rw [cond_true, chk_app _ _ _ (by decide) (by simp), lt_eq]
  rfl
theorem maybe_both (v : TValue) (hv : zV v ≤ 1048576) : ∃ c c' b tl, parseval_maybe FU v = some (hd c b ++ tl) ∧ r26_maybe FU v = some (hd c' b ++ tl) ∧ tl.length ≤ 4 := by
 have hz := z_txt v
 obtain ⟨c, c', b, e1, e2⟩ := color_both v hv
 have l1 := hd_len c b
 have l2 := hd_len c' b
 refine ⟨c, c', b, ?_⟩
 unfold parseval_maybe r26_maybe
 rw [e1, e2, Option.bind_some, Option.bind_some]
 dsimp only
 rw [hd_ex, hd_ex, Option.bind_some, Option.bind_some]
 generalize hd c b = A at *
 generalize hd c' b = B at *
 have ap : ∀ (q : List TVal) (x : TVal) (n : Nat), q.length ≤ n → (q ++ [x]).length ≤ n + 1 := fun q x n h => by simp only [List.length_append, List.length_cons, List.length_nil]; omega
 cases (v.Token.Kind == 1)
 ·rw [cond_false, cond_false]
  cases (v.Token.Kind == 12)
  ·rw [cond_false, cond_false]
   cases (v.Token.Kind == 10)
   ·exact ⟨[], by rw [List.append_nil]; rfl, by rw [List.append_nil]; rfl, by decide⟩
   ·rw [cond_true, cond_true]
    have h2 : ∀ q : List TVal, q.length ≤ 1 → (cond v.Token.Flag (chk (ln q + ln ([(TVal.mk 6 [] (w64 (Int.tdiv v.Token.Num 1000)) (TColor.mk 0 0 0 0))] : List TVal) ≤ 1099511627776) (lt (q ++ ([(TVal.mk 6 [] (w64 (Int.tdiv v.Token.Num 1000)) (TColor.mk 0 0 0 0))] : List TVal)) fun q132 => some q132)) (some q) : Option (List TVal)) = some (q ++ cond v.Token.Flag [(TVal.mk 6 [] (w64 (Int.tdiv v.Token.Num 1000)) (TColor.mk 0 0 0 0))] []) := by
     intro q hq
     cases v.Token.Flag
     ·rw [cond_false, cond_false, List.append_nil]
     ·rw [cond_true, cond_true, chk_app _ _ _ (by omega) (by simp), lt_eq]
    have fl : (cond v.Token.Flag [(TVal.mk 6 [] (w64 (Int.tdiv v.Token.Num 1000)) (TColor.mk 0 0 0 0))] ([] : List TVal)).length ≤ 1 := by
     cases v.Token.Flag <;> exact Nat.le_of_ble_eq_true rfl
    rw [h2 A l1, h2 B l2, Option.bind_some, Option.bind_some]
    generalize (cond v.Token.Flag [(TVal.mk 6 [] (w64 (Int.tdiv v.Token.Num 1000)) (TColor.mk 0 0 0 0))] ([] : List TVal)) = F at *
    have la : (A ++ F).length ≤ 2 := by rw [List.length_append]; omega
    have lb : (B ++ F).length ≤ 2 := by rw [List.length_append]; omega
    rw [chk_app _ _ _ (by omega) (by simp), chk_app _ _ _ (by omega) (by simp)]
    simp only [lt_eq]
    cases (v.Token.Num == 0)
    ·refine ⟨F ++ [TVal.mk 5 [] v.Token.Num (TColor.mk 0 0 0 0)], ?_, ?_, ?_⟩
     ·rw [← List.append_assoc]; rfl
     ·rw [← List.append_assoc]; rfl
     ·have := ap F (TVal.mk 5 [] v.Token.Num (TColor.mk 0 0 0 0)) 1 fl; omega
    ·rw [cond_true, cond_true, chk_app _ _ _ (Nat.le_trans (ap _ _ 2 la) (by decide)) (by simp), chk_app _ _ _ (Nat.le_trans (ap _ _ 2 lb) (by decide)) (by simp)]
     refine ⟨F ++ [TVal.mk 5 [] v.Token.Num (TColor.mk 0 0 0 0)] ++ [TVal.mk 2 [] 0 (TColor.mk 0 0 0 0)], ?_, ?_, ?_⟩
     ·rw [← List.append_assoc, ← List.append_assoc]; rfl
     ·rw [← List.append_assoc, ← List.append_assoc]; rfl
     ·have := ap _ (TVal.mk 2 [] 0 (TColor.mk 0 0 0 0)) 2 (ap F (TVal.mk 5 [] v.Token.Num (TColor.mk 0 0 0 0)) 1 fl); omega
  ·obtain ⟨y, h1, h2⟩ := small_some v.Token.Unit (by omega)
   rw [cond_true, cond_true, h1, Option.bind_some, lt_eq, lt_eq, unit_r FU v y h2 B (by omega) (by unfold FU; omega)]
   show ∃ tl, Option.bind (cond (decide (0 < gi ([2, 3, 4, 0] : List Int) (x_key UN y))) (chk (ln A + ln ([(TVal.mk (gi ([2, 3, 4, 0] : List Int) (x_key UN y)) [] v.Token.Num (TColor.mk 0 0 0 0))] : List TVal) ≤ 1099511627776) (lt (A ++ ([(TVal.mk (gi ([2, 3, 4, 0] : List Int) (x_key UN y)) [] v.Token.Num (TColor.mk 0 0 0 0))] : List TVal)) fun q113 => some q113)) (some A)) _ = _ ∧ _ ∧ _
   cases (decide (0 < gi ([2, 3, 4, 0] : List Int) (x_key UN y)))
   ·exact ⟨[], by rw [List.append_nil]; rfl, rfl, by decide⟩
   ·rw [cond_true, cond_true, chk_app _ _ _ (by omega) (by simp), lt_eq]
    exact ⟨[_], rfl, rfl, by simp⟩
 ·obtain ⟨y, h1, h2⟩ := small_some v.Token.Text (by omega)
  rw [cond_true, cond_true, h1, h2, Option.bind_some, Option.bind_some, chk_app _ _ _ (by omega) (by simp), chk_app _ _ _ (by omega) (by simp)]
  simp only [lt_eq, Option.bind_some]
  cases (y == [99, 117, 114, 114, 101, 110, 116, 99, 111, 108, 111, 114])
  ·exact ⟨[TVal.mk 1 y 0 (TColor.mk 0 0 0 0)], rfl, rfl, by simp⟩
  ·rw [cond_true, cond_true, chk_app _ _ _ (Nat.le_trans (ap _ _ 1 l1) (by decide)) (by simp), chk_app _ _ _ (Nat.le_trans (ap _ _ 1 l2) (by decide)) (by simp)]
   refine ⟨[TVal.mk 1 y 0 (TColor.mk 0 0 0 0), TVal.mk 8 [] 0 (TColor.mk 0 0 0 0)], ?_, ?_, by simp⟩
   ·rw [show A ++ [TVal.mk 1 y 0 (TColor.mk 0 0 0 0)] ++ [TVal.mk 8 [] 0 (TColor.mk 0 0 0 0)] = A ++ [TVal.mk 1 y 0 (TColor.mk 0 0 0 0), TVal.mk 8 [] 0 (TColor.mk 0 0 0 0)] from by simp]; rfl
   ·rw [show B ++ [TVal.mk 1 y 0 (TColor.mk 0 0 0 0)] ++ [TVal.mk 8 [] 0 (TColor.mk 0 0 0 0)] = B ++ [TVal.mk 1 y 0 (TColor.mk 0 0 0 0), TVal.mk 8 [] 0 (TColor.mk 0 0 0 0)] from by simp]; rfl
theorem oks_hd (prop : Int) (c c' : TColor) (b : Bool) (tl : List TVal) : oks prop (hd c b ++ tl) = oks prop (hd c' b ++ tl) := by
 unfold oks
 rw [List.any_append, List.any_append]
 cases b
 ·rfl
 ·show ((hasO prop ⟨7, [], 0, c⟩).1 || false || _) = ((hasO prop ⟨7, [], 0, c'⟩).1 || false || _)
  rw [has_col prop c c']
theorem parse_both (prop : Int) (l : List TValue) (hl : zVs l ≤ 1048576) : ∃ x e x' e', parseval_Parse FU prop l = some (x, e) ∧ r26_Parse FU prop l = some (x', e') ∧ (e == 0) = (e' == 0) := by
 unfold parseval_Parse r26_Parse
 rw [lt_eq, (has_o prop _).2, Option.bind_some]
 cases ho : (cond (decide (prop < 0)) true (decide (18 ≤ prop)))
 ·rw [cond_false, has_in ho, show ((0 : Int) != 0) = false from rfl, cond_false]
  by_cases h1 : ln l = 1
  ·have hlen : 0 < l.length := by unfold ln at h1; omega
   have hm := gi_mem' (l := l) (i := 0) hlen
   have hz := z_mem hm
   obtain ⟨c, c', b, tl, m1, m2, ht⟩ := maybe_both (gi l ((0 : Nat) : Int)) (by omega)
   rw [h1, bne_self_eq_false, cond_false, cond_false, chk_pos ⟨by decide, by decide⟩, chk_pos ⟨by decide, by decide⟩, show parseval_maybe FU (gi l (0 : Int)) = _ from m1, show r26_maybe FU (gi l (0 : Int)) = _ from m2, Option.bind_some, Option.bind_some]
   have g1 := hd_len c b
   have g2 := hd_len c' b
   have he := oks_hd prop c c' b tl
   rcases ps_p prop (hd c b ++ tl) (by rw [List.length_append]; omega) FU 0 (by unfold FU; rw [List.length_append]; omega) (Nat.zero_le _) with ⟨p1, x, p2⟩ | ⟨p1, p2⟩ <;> rcases ps_r prop (hd c' b ++ tl) (by rw [List.length_append]; omega) FU 0 (by unfold FU; rw [List.length_append]; omega) (Nat.zero_le _) with ⟨q1, x', q2⟩ | ⟨q1, q2⟩
   ·rw [show parseval_Parse_L1 FU prop (hd c b ++ tl) FU 0 = _ from p2, show r26_Parse_L1 FU prop (hd c' b ++ tl) FU 0 = _ from q2]
    exact ⟨x, 0, x', 0, rfl, rfl, rfl⟩
   ·rw [List.drop_zero] at p1 q1
    rw [p1, q1] at he; cases he
   ·rw [List.drop_zero] at p1 q1
    rw [p1, q1] at he; cases he
   ·rw [show parseval_Parse_L1 FU prop (hd c b ++ tl) FU 0 = _ from p2, show r26_Parse_L1 FU prop (hd c' b ++ tl) FU 0 = _ from q2]
    exact ⟨_, 12, _, 12, rfl, rfl, rfl⟩
  ·rw [show (ln l != 1) = true from bne_iff_ne.2 h1]
   exact ⟨_, 12, _, 12, rfl, rfl, rfl⟩
 ·rw [cond_true, has_out ho]
  exact ⟨_, 2, _, 2, rfl, rfl, rfl⟩
def rgt (name : Str) (l : List TValue) : Bool := (short_right FU name l).getD false
theorem right_both (name : Str) (l : List TValue) (hl : zVs l ≤ 1048576) : short_right FU name l = some (rgt name l) ∧ r27_right FU name l = some (rgt name l) := by
 have h : ∃ b, short_right FU name l = some b ∧ r27_right FU name l = some b := by
  unfold short_right r27_right
  rw [find_p, find_r, Option.bind_some, Option.bind_some]
  cases ((findA name).2 != 0)
  ·obtain ⟨x, e, x', e', h1, h2, h3⟩ := parse_both (findA name).1 l hl
   rw [cond_false, cond_false, h1, h2, Option.bind_some, Option.bind_some, h3]
   exact ⟨_, rfl, rfl⟩
  ·exact ⟨_, rfl, rfl⟩
 obtain ⟨b, h1, h2⟩ := h
 unfold rgt
 rw [h1, h2]
 exact ⟨rfl, rfl⟩
end Go.Proofs.YtpgflfjmjppmeaaGreatDoor

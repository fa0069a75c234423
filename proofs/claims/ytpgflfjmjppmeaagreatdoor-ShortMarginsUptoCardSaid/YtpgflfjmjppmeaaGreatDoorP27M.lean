/-
 ShortMargins: the model comes to 'true' for any four numbers and any count. No program in sight.
-/
import Derived.Test.YtpgflfjmjppmeaaGreatDoorM
set_option linter.unusedVariables false
set_option maxRecDepth 100000
namespace Go.Proofs.YtpgflfjmjppmeaaGreatDoor
open Go Go.V Go.RowKit
theorem alive_ok : law27_alive 300 = some true := by kernel_rfl
abbrev tk (n : Int) : TValue := TValue.mk (TToken.mk 12 [] n [112, 120] false) []
abbrev spc : TValue := TValue.mk (TToken.mk 13 [] 0 [] false) []
abbrev px (n : Int) : TVal := ⟨2, [], n, TColor.mk 0 0 0 0⟩
theorem check_px (n : Int) (h1 : -1000000 ≤ n) (h2 : n ≤ 1000000) : props_Check (px n) = some 0 := by
 have e1 : (if n < 1000000000000 then n else 1000000000000) = n := if_pos (by omega)
 have e2 : (if w64 (0 - 1000000000000) < n then n else w64 (0 - 1000000000000)) = n := if_pos (by rw [show w64 (0 - 1000000000000) = -1000000000000 from rfl]; omega)
 unfold props_Check
 show Option.bind (lt (if w64 (0 - 1000000000000) < (if n < 1000000000000 then n else 1000000000000) then (if n < 1000000000000 then n else 1000000000000) else w64 (0 - 1000000000000)) fun x61 => (some (.inr ([], 0, 0, 0, 0, x61)) : Option (Sum Int (Str × Int × Int × Int × Int × Int)))) _ = _
 rw [e1, e2, lt_eq, Option.bind_some]
 dsimp only [sumK]
 rw [show (n == n) = true from beq_self_eq_true n]
 rfl
def tab : List TProp := (props_Table 64).getD []
theorem tab_eq : props_Table 64 = some tab := by kernel_rfl
theorem has_px (p : Nat) (hp : p < 4) (n : Int) (h1 : -1000000 ≤ n) (h2 : n ≤ 1000000) : props_Has 64 ((8 + p : Nat) : Int) (px n) = some (true, 0) := by
 unfold props_Has
 rw [tab_eq, check_px n h1 h2]
 obtain rfl | rfl | rfl | rfl : p = 0 ∨ p = 1 ∨ p = 2 ∨ p = 3 := by omega
 all_goals kernel_rfl
theorem maybe_px (n : Int) : parseval_maybe 300 (tk n) = some [px n] := by kernel_rfl
theorem parse_px (p : Nat) (hp : p < 4) (n : Int) (h1 : -1000000 ≤ n) (h2 : n ≤ 1000000) : parseval_Parse 300 ((8 + p : Nat) : Int) [tk n] = some (px n, 0) := by
 have hh := has_px p hp n h1 h2
 have hb : cond (decide (((8 + p : Nat) : Int) < 0)) true (decide (18 ≤ ((8 + p : Nat) : Int))) = false := by
  rw [decide_eq_false (by omega), decide_eq_false (by omega)]; rfl
 unfold parseval_Parse
 rw [lt_eq, hb, cond_false]
 show Option.bind (Option.bind (parseval_maybe 300 (tk n)) fun y28 => parseval_Parse_L1 300 ((8 + p : Nat) : Int) y28 300 0) _ = _
 rw [maybe_px, Option.bind_some]
 show Option.bind (Option.bind (props_Has 64 ((8 + p : Nat) : Int) (px n)) _) _ = _
 rw [hh]
 rfl
def nm : Nat → Str
 | 0 => [109, 97, 114, 103, 105, 110, 45, 116, 111, 112]
 | 1 => [109, 97, 114, 103, 105, 110, 45, 114, 105, 103, 104, 116]
 | 2 => [109, 97, 114, 103, 105, 110, 45, 98, 111, 116, 116, 111, 109]
 | _ => [109, 97, 114, 103, 105, 110, 45, 108, 101, 102, 116]
theorem find_nm (p : Nat) (hp : p < 4) : props_Find 64 (nm p) = some (((8 + p : Nat) : Int), 0) := by
 obtain rfl | rfl | rfl | rfl : p = 0 ∨ p = 1 ∨ p = 2 ∨ p = 3 := by omega
 all_goals kernel_rfl
theorem right_px (p : Nat) (hp : p < 4) (n : Int) (h1 : -1000000 ≤ n) (h2 : n ≤ 1000000) : short_right 300 (nm p) [tk n] = some true := by
 unfold short_right
 rw [find_nm p hp, Option.bind_some]
 show Option.bind (parseval_Parse 300 ((8 + p : Nat) : Int) [tk n]) _ = _
 rw [parse_px p hp n h1 h2]
 rfl
abbrev mg : Str := [109, 97, 114, 103, 105, 110]
theorem parts_st (z : List (List TValue)) (y : List Str) (kk i : Nat) (hi : i < 100) (h1 : i < y.length) (h2 : i < z.length) (hr : short_right 300 (gi y (i : Int)) (gi z (i : Int)) = some true) : short_parts_L1 300 z y (kk + 1) (i : Int) = short_parts_L1 300 z y kk ((i + 1 : Nat) : Int) := by
 rw [short_parts_L1, lt_dec h1, cond_true, chk_ix h1, chk_ix h2, hr, Option.bind_some, Bool.not_true, cond_false, w64_ix (by omega)]
theorem parts_px (l : List TValue) (a b c d : Int) (ha : -1000000 ≤ a ∧ a ≤ 1000000) (hb : -1000000 ≤ b ∧ b ≤ 1000000) (hc : -1000000 ≤ c ∧ c ≤ 1000000) (hd : -1000000 ≤ d ∧ d ≤ 1000000)
  (hs : short_sides 300 l = some [[tk a], [tk b], [tk c], [tk d]]) : short_parts 300 mg l = some [[tk a], [tk b], [tk c], [tk d]] := by
 have e : short_parts_L1 300 [[tk a], [tk b], [tk c], [tk d]] [nm 0, nm 1, nm 2, nm 3] (296 + 1 + 1 + 1 + 1) ((0 : Nat) : Int) = some (.inr ()) := by
  rw [parts_st [[tk a], [tk b], [tk c], [tk d]] [nm 0, nm 1, nm 2, nm 3] _ 0 (by decide) (by decide) (by simp) (right_px 0 (by decide) a ha.1 ha.2), parts_st [[tk a], [tk b], [tk c], [tk d]] [nm 0, nm 1, nm 2, nm 3] _ (0 + 1) (by decide) (by decide) (by simp) (right_px 1 (by decide) b hb.1 hb.2), parts_st [[tk a], [tk b], [tk c], [tk d]] [nm 0, nm 1, nm 2, nm 3] _ (0 + 1 + 1) (by decide) (by decide) (by simp) (right_px 2 (by decide) c hc.1 hc.2),
   parts_st [[tk a], [tk b], [tk c], [tk d]] [nm 0, nm 1, nm 2, nm 3] _ (0 + 1 + 1 + 1) (by decide) (by decide) (by simp) (right_px 3 (by decide) d hd.1 hd.2), short_parts_L1, ge_dec (by simp), cond_false]
 unfold short_parts
 rw [hs, show (mg == [109, 97, 114, 103, 105, 110]) = true from by kernel_rfl, cond_true, Option.bind_some, Option.bind_some]
 rw [show short_of 64 mg = some [nm 0, nm 1, nm 2, nm 3] from by kernel_rfl, Option.bind_some, show (ln [[tk a], [tk b], [tk c], [tk d]] != ln [nm 0, nm 1, nm 2, nm 3]) = false from by kernel_rfl, cond_false,
  show short_parts_L1 300 [[tk a], [tk b], [tk c], [tk d]] [nm 0, nm 1, nm 2, nm 3] 300 0 = some (.inr ()) from e]
 rfl
abbrev lg (p : Nat) (n : Int) : TLong := TLong.mk (nm p) [tk n] []
theorem expand_px (l : List TValue) (a b c d : Int) (hp : short_parts 300 mg l = some [[tk a], [tk b], [tk c], [tk d]]) (hn : nest_Check 300 l = some 0) (hv : short_Var 300 l = some false) (hw : short_Wide 300 l = some []) :
  short_Expand 300 (TDecl.mk mg l false) = some ([lg 0 a, lg 1 b, lg 2 c, lg 3 d], 0) := by
 unfold short_Expand
 dsimp only
 rw [hn, Option.bind_some, show ((0 : Int) != 0) = false from rfl, cond_false, show short_Longs 64 mg = some ([nm 0, nm 1, nm 2, nm 3], 0) from by kernel_rfl, Option.bind_some]
 dsimp only
 rw [show ((0 : Int) != 0) = false from rfl, cond_false, show short_of 64 mg = some [nm 0, nm 1, nm 2, nm 3] from by kernel_rfl, Option.bind_some, hv, Option.bind_some, show props_Custom mg = some false from by kernel_rfl, Option.bind_some, cond_false, hw, Option.bind_some, show (([] : Str) == []) = true from rfl, Bool.not_true, cond_false, cond_false,
  show decide (0 < ln [nm 0, nm 1, nm 2, nm 3]) = true from by kernel_rfl, Bool.not_true, cond_false, Option.bind_some, cond_false, lt_eq, Option.bind_some, cond_false, cond_true, hp]
 kernel_rfl
abbrev at4 (n : TA4_int64) (i : Int) : Int := gi [n.e0, n.e1, n.e2, n.e3] i
def ou (x : Int) : Bool := cond (decide (1000000 < x)) true (decide (x < -1000000))
theorem ou_in {x : Int} (h : ou x = false) : -1000000 ≤ x ∧ x ≤ 1000000 := by
 unfold ou at h
 by_cases h1 : 1000000 < x
 ·rw [decide_eq_true h1] at h; cases h
 ·by_cases h2 : x < -1000000
  ·rw [decide_eq_true h2, decide_eq_false h1] at h; cases h
  ·omega
def it (n : TA4_int64) (i : Nat) : List TValue := cond (decide (0 < (i : Int))) [spc, tk (at4 n i)] [tk (at4 n i)]
def its (n : TA4_int64) : Nat → Nat → List TValue
 | 0, _ => []
 | k + 1, i => it n i ++ its n k (i + 1)
theorem L1_all (n : TA4_int64) (K : Nat) (hK : K ≤ 4) : ∀ (kk i k : Nat) (v : List TValue), i + k = K → k < kk → v.length ≤ 2 * i →
  law27_ShortMargins_L1 300 n (K : Int) true kk v (i : Int) = some (.inl true) ∨ (law27_ShortMargins_L1 300 n (K : Int) true kk v (i : Int) = some (.inr (v ++ its n k i)) ∧ ∀ j : Nat, i ≤ j → j < K → ou (at4 n (j : Int)) = false) := by
 intro kk
 induction kk with
 | zero => intro i k v _ h; omega
 | succ kk ih =>
  intro i k v hik hk hv
  rw [law27_ShortMargins_L1]
  cases k with
  | zero =>
   right
   rw [decide_eq_false (by omega), cond_false, its, List.append_nil]
   exact ⟨rfl, fun j h1 h2 => by omega⟩
  | succ k =>
   have hit : Option.bind (cond (decide (0 < (i : Int))) (chk (ln v + ln ([(TValue.mk (TToken.mk 13 [] 0 [] false) [])] : List TValue) ≤ 1099511627776) (lt (v ++ ([(TValue.mk (TToken.mk 13 [] 0 [] false) [])] : List TValue)) fun q42 => some q42)) (some v)) (fun (z32 : List TValue) =>
     chk (ln z32 + ln ([(TValue.mk (TToken.mk 12 [] (gi [n.e0, n.e1, n.e2, n.e3] (i : Int)) [112, 120] false) [])] : List TValue) ≤ 1099511627776) <|
     lt (z32 ++ ([(TValue.mk (TToken.mk 12 [] (gi [n.e0, n.e1, n.e2, n.e3] (i : Int)) [112, 120] false) [])] : List TValue)) fun q57 =>
     law27_ShortMargins_L1 300 n (K : Int) true kk q57 (w64 ((i : Int) + 1))) = law27_ShortMargins_L1 300 n (K : Int) true kk (v ++ it n i) ((i + 1 : Nat) : Int) := by
    unfold it
    cases (decide (0 < (i : Int)))
    ·rw [cond_false, cond_false, Option.bind_some, chk_pos (by unfold ln; simp only [List.length_cons, List.length_nil]; omega), lt_eq, w64_ix (by omega)]
    ·rw [cond_true, cond_true, chk_pos (by unfold ln; simp only [List.length_cons, List.length_nil]; omega), lt_eq, Option.bind_some, chk_pos (by unfold ln; simp only [List.length_append, List.length_cons, List.length_nil]; omega), lt_eq, w64_ix (by omega), List.append_assoc]
     rfl
   rw [decide_eq_true (show (i : Int) < (K : Int) by omega), cond_true, chk_pos ⟨by omega, by omega⟩, lt_eq, lt_eq, hit]
   cases ho : ou (at4 n (i : Int))
   ·have ho2 : (cond (decide (1000000 < gi [n.e0, n.e1, n.e2, n.e3] (i : Int))) true (decide (gi [n.e0, n.e1, n.e2, n.e3] (i : Int) < -1000000))) = false := ho
    rw [ho2, cond_false]
    rcases ih (i + 1) k (v ++ it n i) (by omega) (by omega) (by unfold it; cases (decide (0 < (i : Int))) <;> simp only [cond_true, cond_false, List.length_append, List.length_cons, List.length_nil] <;> omega) with h | ⟨h, hh⟩
    ·exact Or.inl h
    ·right
     rw [h, its, List.append_assoc]
     refine ⟨rfl, fun j h1 h2 => ?_⟩
     by_cases e : j = i
     ·subst e; exact ho
     ·exact hh j (by omega) h2
   ·left
    have ho2 : (cond (decide (1000000 < gi [n.e0, n.e1, n.e2, n.e3] (i : Int))) true (decide (gi [n.e0, n.e1, n.e2, n.e3] (i : Int) < -1000000))) = true := ho
    rw [ho2, cond_true]
abbrev fr (F : List Int) (i : Int) : Int := gi [gi F (0 : Int), gi F (1 : Int), gi F (2 : Int), gi F (3 : Int)] i
theorem L2_st (n : TA4_int64) (out : List TLong) (F : List Int) (kk i : Nat) (hi : i < 4) (hl : out.length = 4) (x : Int) (h1 : -1000000 ≤ x) (h2 : x ≤ 1000000) (hv : (gi out (i : Int)).Value = [tk x]) (hf : 0 ≤ fr F (i : Int) ∧ fr F (i : Int) < 4) (he : at4 n (fr F (i : Int)) = x) :
  law27_ShortMargins_L2 300 n (out, 0) F (kk + 1) (i : Int) = law27_ShortMargins_L2 300 n (out, 0) F kk ((i + 1 : Nat) : Int) := by
 rw [law27_ShortMargins_L2, decide_eq_true (show (i : Int) < 4 by omega), cond_true, chk_pos (p := 0 ≤ (i : Int) ∧ (i : Int) < ln (out, (0 : Int)).1) ⟨by omega, by unfold ln; rw [hl]; omega⟩, show w64 (8 + (i : Int)) = ((8 + i : Nat) : Int) from by rw [w64_id (by omega) (by omega)]; omega, hv, parse_px i hi x h1 h2, Option.bind_some,
  chk_pos (fun _ => ⟨by omega, by omega⟩), chk_pos (fun _ => hf), lt_eq, w64_ix (by omega), show gi [n.e0, n.e1, n.e2, n.e3] (gi [gi F (0 : Int), gi F (1 : Int), gi F (2 : Int), gi F (3 : Int)] (i : Int)) = x from he]
 have e : (cond ((0 : Int) != 0) true (!(((px x).Kind == 2) && (((px x).Word == []) && (((px x).Num == x) && ((((px x).Color.Red == 0) && (((px x).Color.Green == 0) && (((px x).Color.Blue == 0) && (((px x).Color.Alpha == 0) && true)))) && true)))))) = false := by
  rw [show ((px x).Num == x) = true from beq_self_eq_true x]
  rfl
 dsimp only at e ⊢
 rw [e, cond_false]
theorem L2_all (n : TA4_int64) (F : List Int) (x0 x1 x2 x3 : Int) (r0 : -1000000 ≤ x0 ∧ x0 ≤ 1000000) (r1 : -1000000 ≤ x1 ∧ x1 ≤ 1000000) (r2 : -1000000 ≤ x2 ∧ x2 ≤ 1000000) (r3 : -1000000 ≤ x3 ∧ x3 ≤ 1000000)
  (hf : ∀ i : Nat, i < 4 → 0 ≤ fr F (i : Int) ∧ fr F (i : Int) < 4) (e0 : at4 n (fr F 0) = x0) (e1 : at4 n (fr F 1) = x1) (e2 : at4 n (fr F 2) = x2) (e3 : at4 n (fr F 3) = x3) :
  law27_ShortMargins_L2 300 n ([lg 0 x0, lg 1 x1, lg 2 x2, lg 3 x3], 0) F 300 0 = some (.inr ()) := by
 have e : law27_ShortMargins_L2 300 n ([lg 0 x0, lg 1 x1, lg 2 x2, lg 3 x3], 0) F (295 + 1 + 1 + 1 + 1 + 1) ((0 : Nat) : Int) = some (.inr ()) := by
  rw [L2_st n [lg 0 x0, lg 1 x1, lg 2 x2, lg 3 x3] F _ 0 (by decide) rfl x0 r0.1 r0.2 rfl (hf 0 (by decide)) e0, L2_st n [lg 0 x0, lg 1 x1, lg 2 x2, lg 3 x3] F _ (0 + 1) (by decide) rfl x1 r1.1 r1.2 rfl (hf 1 (by decide)) e1,
   L2_st n [lg 0 x0, lg 1 x1, lg 2 x2, lg 3 x3] F _ (0 + 1 + 1) (by decide) rfl x2 r2.1 r2.2 rfl (hf 2 (by decide)) e2, L2_st n [lg 0 x0, lg 1 x1, lg 2 x2, lg 3 x3] F _ (0 + 1 + 1 + 1) (by decide) rfl x3 r3.1 r3.2 rfl (hf 3 (by decide)) e3,
   law27_ShortMargins_L2, decide_eq_false (by omega), cond_false]
 exact e
theorem rest (n : TA4_int64) (many : Int) (l : List TValue) (F : List Int) (x0 x1 x2 x3 : Int) (r0 : -1000000 ≤ x0 ∧ x0 ≤ 1000000) (r1 : -1000000 ≤ x1 ∧ x1 ≤ 1000000) (r2 : -1000000 ≤ x2 ∧ x2 ≤ 1000000) (r3 : -1000000 ≤ x3 ∧ x3 ≤ 1000000)
  (hs : short_sides 300 l = some [[tk x0], [tk x1], [tk x2], [tk x3]]) (hn : nest_Check 300 l = some 0) (hv : short_Var 300 l = some false) (hw : short_Wide 300 l = some []) (hm : 0 ≤ w64 (many - 1) ∧ w64 (many - 1) < 4)
  (hF : gir [0, 0, 0, 0, 0, 1, 0, 1, 0, 1, 2, 1, 0, 1, 2, 3] 4 (w64 (many - 1)) = F) (hf : ∀ i : Nat, i < 4 → 0 ≤ fr F (i : Int) ∧ fr F (i : Int) < 4) (e0 : at4 n (fr F 0) = x0) (e1 : at4 n (fr F 1) = x1) (e2 : at4 n (fr F 2) = x2) (e3 : at4 n (fr F 3) = x3) :
  (Option.bind (short_Expand 300 (TDecl.mk [109, 97, 114, 103, 105, 110] l false)) fun y73 =>
   cond (cond (y73.2 != 0) true ((ln y73.1) != 4)) (some false) (
   chk (0 ≤ (w64 (many - 1)) ∧ (w64 (many - 1)) < (4 : Int)) <|
   lt (gir [0, 0, 0, 0, 0, 1, 0, 1, 0, 1, 2, 1, 0, 1, 2, 3] 4 (w64 (many - 1))) fun x85 =>
   Option.bind (law27_ShortMargins_L2 300 n y73 x85 300 0) fun (z93 : Sum (Bool) (Unit)) => sumK z93 fun s_z93 => some true)) = some true := by
 rw [show short_Expand 300 (TDecl.mk [109, 97, 114, 103, 105, 110] l false) = _ from expand_px l x0 x1 x2 x3 (parts_px l x0 x1 x2 x3 r0 r1 r2 r3 hs) hn hv hw, Option.bind_some]
 have e : (cond ((([lg 0 x0, lg 1 x1, lg 2 x2, lg 3 x3], (0 : Int)) : List TLong × Int).2 != 0) true ((ln (([lg 0 x0, lg 1 x1, lg 2 x2, lg 3 x3], (0 : Int)) : List TLong × Int).1) != 4)) = false := rfl
 rw [e, cond_false, chk_pos hm, lt_eq, hF, L2_all n F x0 x1 x2 x3 r0 r1 r2 r3 hf e0 e1 e2 e3, Option.bind_some]
 rfl
theorem plain_ShortMargins (n_ : TA4_int64) (many : Int) {p q h : Prop} (_ : p) (_ : q) (_ : h) : law27_ShortMargins 300 n_ many = some true := by
 obtain ⟨a, b, c, d⟩ := n_
 unfold law27_ShortMargins
 rw [alive_ok, Option.bind_some]
 by_cases h1 : many < 1
 ·rw [decide_eq_true h1]; rfl
 by_cases h4 : 4 < many
 ·rw [decide_eq_true h4, decide_eq_false h1]; rfl
 rw [decide_eq_false h1, decide_eq_false h4, lt_eq, cond_false, cond_false, Bool.not_true, cond_false]
 have hff : ∀ F : List Int, (F = [0, 0, 0, 0] ∨ F = [0, 1, 0, 1] ∨ F = [0, 1, 2, 1] ∨ F = [0, 1, 2, 3]) → ∀ i : Nat, i < 4 → 0 ≤ fr F (i : Int) ∧ fr F (i : Int) < 4 := by
  intro F hF i hi
  obtain rfl | rfl | rfl | rfl : i = 0 ∨ i = 1 ∨ i = 2 ∨ i = 3 := by omega
  all_goals (rcases hF with rfl | rfl | rfl | rfl <;> decide)
 obtain rfl | rfl | rfl | rfl : many = 1 ∨ many = 2 ∨ many = 3 ∨ many = 4 := by omega
 ·rcases L1_all ⟨a, b, c, d⟩ 1 (by decide) 300 0 1 [] rfl (by decide) (by decide) with h | ⟨h, hh⟩
  ·rw [show law27_ShortMargins_L1 300 ⟨a, b, c, d⟩ 1 true 300 [] 0 = _ from h]; rfl
  ·rw [show law27_ShortMargins_L1 300 ⟨a, b, c, d⟩ 1 true 300 [] 0 = _ from h, Option.bind_some]
   have ra := ou_in (hh 0 (by decide) (by decide))
   rw [show ([] : List TValue) ++ its ⟨a, b, c, d⟩ 1 0 = [tk a] from rfl]
   dsimp only [sumK]
   exact rest ⟨a, b, c, d⟩ 1 [tk a] [0, 0, 0, 0] a a a a ra ra ra ra (by kernel_rfl) (by kernel_rfl) (by kernel_rfl) (by kernel_rfl) (by decide) rfl (hff _ (by simp)) rfl rfl rfl rfl
 ·rcases L1_all ⟨a, b, c, d⟩ 2 (by decide) 300 0 2 [] rfl (by decide) (by decide) with h | ⟨h, hh⟩
  ·rw [show law27_ShortMargins_L1 300 ⟨a, b, c, d⟩ 2 true 300 [] 0 = _ from h]; rfl
  ·rw [show law27_ShortMargins_L1 300 ⟨a, b, c, d⟩ 2 true 300 [] 0 = _ from h, Option.bind_some]
   have ra := ou_in (hh 0 (by decide) (by decide)); have rb := ou_in (hh 1 (by decide) (by decide))
   rw [show ([] : List TValue) ++ its ⟨a, b, c, d⟩ 2 0 = [tk a, spc, tk b] from rfl]
   dsimp only [sumK]
   exact rest ⟨a, b, c, d⟩ 2 [tk a, spc, tk b] [0, 1, 0, 1] a b a b ra rb ra rb (by kernel_rfl) (by kernel_rfl) (by kernel_rfl) (by kernel_rfl) (by decide) rfl (hff _ (by simp)) rfl rfl rfl rfl
 ·rcases L1_all ⟨a, b, c, d⟩ 3 (by decide) 300 0 3 [] rfl (by decide) (by decide) with h | ⟨h, hh⟩
  ·rw [show law27_ShortMargins_L1 300 ⟨a, b, c, d⟩ 3 true 300 [] 0 = _ from h]; rfl
  ·rw [show law27_ShortMargins_L1 300 ⟨a, b, c, d⟩ 3 true 300 [] 0 = _ from h, Option.bind_some]
   have ra := ou_in (hh 0 (by decide) (by decide)); have rb := ou_in (hh 1 (by decide) (by decide)); have rc := ou_in (hh 2 (by decide) (by decide))
   rw [show ([] : List TValue) ++ its ⟨a, b, c, d⟩ 3 0 = [tk a, spc, tk b, spc, tk c] from rfl]
   dsimp only [sumK]
   exact rest ⟨a, b, c, d⟩ 3 [tk a, spc, tk b, spc, tk c] [0, 1, 2, 1] a b c b ra rb rc rb (by kernel_rfl) (by kernel_rfl) (by kernel_rfl) (by kernel_rfl) (by decide) rfl (hff _ (by simp)) rfl rfl rfl rfl
 ·rcases L1_all ⟨a, b, c, d⟩ 4 (by decide) 300 0 4 [] rfl (by decide) (by decide) with h | ⟨h, hh⟩
  ·rw [show law27_ShortMargins_L1 300 ⟨a, b, c, d⟩ 4 true 300 [] 0 = _ from h]; rfl
  ·rw [show law27_ShortMargins_L1 300 ⟨a, b, c, d⟩ 4 true 300 [] 0 = _ from h, Option.bind_some]
   have ra := ou_in (hh 0 (by decide) (by decide)); have rb := ou_in (hh 1 (by decide) (by decide)); have rc := ou_in (hh 2 (by decide) (by decide)); have rd := ou_in (hh 3 (by decide) (by decide))
   rw [show ([] : List TValue) ++ its ⟨a, b, c, d⟩ 4 0 = [tk a, spc, tk b, spc, tk c, spc, tk d] from rfl]
   dsimp only [sumK]
   exact rest ⟨a, b, c, d⟩ 4 [tk a, spc, tk b, spc, tk c, spc, tk d] [0, 1, 2, 3] a b c d ra rb rc rd (by kernel_rfl) (by kernel_rfl) (by kernel_rfl) (by kernel_rfl) (by decide) rfl (hff _ (by simp)) rfl rfl rfl rfl
end Go.Proofs.YtpgflfjmjppmeaaGreatDoor

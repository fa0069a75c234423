/-
 The texts of colours: what is written, and what is read of it. No program in sight.
-/
import Derived.Test.YtemchjneoalnoaaGreatDoorA8
set_option linter.unusedVariables false
namespace Go.Proofs.YtemchjneoalnoaaGreatDoor
open Go Go.V
set_option maxRecDepth 100000
def tot (l : List Str) : Nat := (l.map List.length).sum
theorem tot_cons (x : Str) (l : List Str) : tot (x :: l) = x.length + tot l := by simp [tot]
def jn (sep : Str) : List Str → Str
 | [] => []
 | x :: r => x ++ r.flatMap (sep ++ ·)
theorem fm_len (sep : Str) : ∀ r : List Str, (r.flatMap (sep ++ ·)).length = tot r + r.length * sep.length
 | [] => by simp [tot]
 | x :: r => by
  rw [List.flatMap_cons, List.length_append, List.length_append, fm_len sep r, tot_cons, List.length_cons, Nat.add_mul]; omega
theorem jn_L1 (m : Nat) (l : List Str) (hl : l.length < 1000000) : ∀ (kk i z : Nat), l.length - i < kk → i ≤ l.length → z + tot (l.drop i) ≤ 100000000000 → strings_Join_L1 m l kk (z : Int) (i : Int) = some ((z + tot (l.drop i) : Nat) : Int) := by
 intro kk
 induction kk with
 | zero => intro i z h; omega
 | succ kk ih =>
  intro i z hk hi hz
  rw [strings_Join_L1]
  by_cases hlt : i < l.length
  ·have hg : gi l (i : Int) = l[i] := gi_nat l i hlt
   rw [List.drop_eq_getElem_cons hlt, tot_cons] at hz
   rw [lt_dec hlt, cond_true, chk_ix hlt, hg, w64_id (x := 9223372036854775807 - (z : Int)) (by omega) (by omega), show decide (9223372036854775807 - (z : Int) < ln l[i]) = false from decide_eq_false (by unfold ln; omega), lt_eq, cond_false, w64_ix (by omega)]
   have e : w64 ((z : Int) + ln l[i]) = ((z + l[i].length : Nat) : Int) := by unfold ln; rw [w64_id (by omega) (by omega)]; omega
   rw [e, ih (i + 1) (z + l[i].length) (by omega) hlt (by omega), List.drop_eq_getElem_cons hlt, tot_cons, Nat.add_assoc]
  ·rw [ge_dec (by omega), cond_false, List.drop_eq_nil_of_le (by omega)]
   rfl
theorem jn_L2 (m : Nat) (sep : Str) (hsp : sep.length ≤ 10) (l : List Str) (hl : l.length < 1000000) : ∀ (kk i : Nat) (acc : Str), l.length - i < kk → i ≤ l.length → acc.length + ((l.drop i).flatMap (sep ++ ·)).length ≤ 1000000000000 → strings_Join_L2 m sep l kk (i : Int) acc = some (acc ++ (l.drop i).flatMap (sep ++ ·)) := by
 intro kk
 induction kk with
 | zero => intro i z h; omega
 | succ kk ih =>
  intro i acc hk hi hz
  rw [strings_Join_L2]
  by_cases hlt : i < l.length
  ·have hg : gi l (i : Int) = l[i] := gi_nat l i hlt
   rw [List.drop_eq_getElem_cons hlt, List.flatMap_cons, List.length_append, List.length_append] at hz
   rw [lt_dec hlt, cond_true, chk_ix hlt, hg, chk_pos (by unfold ln; omega), lt_eq, chk_pos (by unfold ln; rw [List.length_append]; omega), lt_eq, w64_ix (by omega), ih (i + 1) _ (by omega) hlt (by rw [List.length_append, List.length_append]; omega), List.drop_eq_getElem_cons hlt, List.flatMap_cons]
   simp
  ·rw [ge_dec (by omega), cond_false, List.drop_eq_nil_of_le (by omega)]
   show some acc = some (acc ++ [])
   rw [List.append_nil]
theorem join_eq (m : Nat) (l : List Str) (sep : Str) (hs : 1 ≤ sep.length ∧ sep.length ≤ 10) (hl : l.length < 1000000) (hm : l.length < m) (ht : tot l ≤ 10000000000) : strings_Join m l sep = some (jn sep l) := by
 unfold strings_Join
 match l, hl, hm, ht with
 | [], _, _, _ => rfl
 | [x], _, _, _ => simp [jn, gi, ln, chk]
 | x :: y :: r, hl, hm, ht =>
  generalize hR : y :: r = R at *
  have hRl : 1 ≤ R.length := by rw [← hR]; simp
  have hln : ln (x :: R) = ((R.length + 1 : Nat) : Int) := rfl
  rw [tot_cons] at ht
  simp only [List.length_cons] at hl hm
  rw [hln, show (((R.length + 1 : Nat) : Int) == 0) = false from beq_eq_false_iff_ne.2 (by omega), cond_false, show (((R.length + 1 : Nat) : Int) == 1) = false from beq_eq_false_iff_ne.2 (by omega), cond_false]
  have hw : w64 (((R.length + 1 : Nat) : Int) - 1) = (R.length : Int) := by rw [w64_id (by omega) (by omega)]; omega
  have hsl : ln sep = (sep.length : Int) := rfl
  rw [hw, hsl, show decide ((0 : Int) < (sep.length : Int)) = true from decide_eq_true (by omega), cond_true, chk_pos (by omega), lt_eq]
  have hq : Int.tdiv 9223372036854775807 (R.length : Int) = 9223372036854775807 / (R.length : Int) := tdiv_pos (by omega)
  have hq2 : (9223372036854 : Int) ≤ 9223372036854775807 / (R.length : Int) := by
   rw [Int.le_ediv_iff_mul_le (by omega)]
   omega
  have hq3 : 9223372036854775807 / (R.length : Int) ≤ 9223372036854775807 := by
   refine Int.ediv_le_self _ (by omega)
  rw [hq, w64_id (x := 9223372036854775807 / (R.length : Int)) (by omega) (by omega), show decide (9223372036854775807 / (R.length : Int) ≤ (sep.length : Int)) = false from decide_eq_false (by omega), cond_false, lt_eq, Option.bind_some]
  have hmul : sep.length * R.length ≤ 10 * R.length := Nat.mul_le_mul_right _ hs.2
  have hz : w64 (0 + w64 ((sep.length : Int) * (R.length : Int))) = ((sep.length * R.length : Nat) : Int) := by
   have e : (sep.length : Int) * (R.length : Int) = ((sep.length * R.length : Nat) : Int) := by simp
   rw [e, w64_id (x := ((sep.length * R.length : Nat) : Int)) (by omega) (by omega), w64_id (by omega) (by omega)]; omega
  rw [hz]
  have h1 := jn_L1 m (x :: R) (by simp; omega) m 0 (sep.length * R.length) (by simp; omega) (by omega) (by rw [List.drop_zero, tot_cons]; omega)
  rw [List.drop_zero, tot_cons] at h1
  rw [show strings_Join_L1 m (x :: R) m ((sep.length * R.length : Nat) : Int) 0 = _ from h1, Option.bind_some, chk_pos ⟨by omega, by omega⟩, chk_pos ⟨by omega, by omega⟩]
  have hg : gi (x :: R) (0 : Int) = x := rfl
  rw [hg, chk_pos (by unfold ln; simp only [List.length_nil]; omega), lt_eq, chk_pos ⟨by omega, by omega, Int.le_refl _⟩]
  have hsub : subl (x :: R) (1 : Int) ((R.length + 1 : Nat) : Int) = R := by
   unfold subl
   rw [Int.toNat_natCast]
   show (R.take (R.length + 1 - 1)) = R
   rw [Nat.add_sub_cancel, List.take_length]
  rw [hsub, lt_eq]
  have hfl := fm_len sep R
  have h2 := jn_L2 m sep hs.2 R (by omega) m 0 x (by omega) (by omega) (by rw [List.drop_zero, hfl, Nat.mul_comm]; omega)
  rw [show strings_Join_L2 m sep R m 0 ([] ++ x) = _ from h2, Option.bind_some, List.drop_zero]
  rfl
theorem w64_u8 {n : Nat} (h : n < 256) : w64 (n : Int) = (n : Int) := w64_id (by omega) (by omega)
theorem w64_h {n : Nat} (h : n < 256) : w64 (256 + w64 (n : Int)) = ((256 + n : Nat) : Int) := by rw [w64_u8 h, w64_id (by omega) (by omega)]; omega
theorem shown_L1 (r g b a : Nat) (hr : r < 256) (hg : g < 256) (hb : b < 256) (k : Nat) : parseval_Shown_L1 300 ⟨(r : Int), (g : Int), (b : Int), (a : Int)⟩ (k + 4) [] 0 = some [Lib.decDigits r, Lib.decDigits g, Lib.decDigits b] := by
 rw [show k + 4 = (k + 3) + 1 from rfl, parseval_Shown_L1, show decide ((0 : Int) < (3 : Int)) = true from rfl, cond_true, chk_pos (by decide), chk_pos (by decide), lt_eq, show gi [(r : Int), (g : Int), (b : Int), (a : Int)] (0 : Int) = (r : Int) from rfl, w64_u8 hr, x_it (by omega), Option.bind_some, chk_pos (by unfold ln; simp), lt_eq, show w64 ((0 : Int) + 1) = 1 from rfl]
 rw [show k + 3 = (k + 2) + 1 from rfl, parseval_Shown_L1, show decide ((1 : Int) < (3 : Int)) = true from rfl, cond_true, chk_pos (by decide), chk_pos (by decide), lt_eq, show gi [(r : Int), (g : Int), (b : Int), (a : Int)] (1 : Int) = (g : Int) from rfl, w64_u8 hg, x_it (by omega), Option.bind_some, chk_pos (by unfold ln; simp), lt_eq, show w64 ((1 : Int) + 1) = 2 from rfl]
 rw [show k + 2 = (k + 1) + 1 from rfl, parseval_Shown_L1, show decide ((2 : Int) < (3 : Int)) = true from rfl, cond_true, chk_pos (by decide), chk_pos (by decide), lt_eq, show gi [(r : Int), (g : Int), (b : Int), (a : Int)] (2 : Int) = (b : Int) from rfl, w64_u8 hb, x_it (by omega), Option.bind_some, chk_pos (by unfold ln; simp), lt_eq, show w64 ((2 : Int) + 1) = 3 from rfl]
 rw [parseval_Shown_L1, show decide ((3 : Int) < (3 : Int)) = false from rfl, cond_false]
 rfl
theorem hx_len {y : Str} (h : ln y = 3) : (sub y 1 (ln y)).length ≤ 3 := by
 have := sub_len y 1 (ln y)
 unfold ln at h
 omega
theorem shown_L2 (r g b a : Nat) (hr : r < 256) (hg : g < 256) (hb : b < 256) (ha : a < 256) {y1 y2 y3 y4 : Str} (f1 : strconv_FormatInt 300 ((256 + r : Nat) : Int) = some y1) (f2 : strconv_FormatInt 300 ((256 + g : Nat) : Int) = some y2) (f3 : strconv_FormatInt 300 ((256 + b : Nat) : Int) = some y3) (f4 : strconv_FormatInt 300 ((256 + a : Nat) : Int) = some y4)
  (l1 : ln y1 = 3) (l2 : ln y2 = 3) (l3 : ln y3 = 3) (l4 : ln y4 = 3) (k : Nat) : parseval_Shown_L2 300 ⟨(r : Int), (g : Int), (b : Int), (a : Int)⟩ (k + 5) [35] 0 = some (((([35] ++ sub y1 1 (ln y1)) ++ sub y2 1 (ln y2)) ++ sub y3 1 (ln y3)) ++ sub y4 1 (ln y4)) := by
 have q1 := hx_len l1
 have q2 := hx_len l2
 have q3 := hx_len l3
 have q4 := hx_len l4
 have ck : ∀ {α β : Type} (x : List α) (y : List β), x.length ≤ 1000 → y.length ≤ 1000 → ln x + ln y ≤ 9223372036854775807 := fun x y h1 h2 => by unfold ln; omega
 rw [show k + 5 = (k + 4) + 1 from rfl, parseval_Shown_L2, show decide ((0 : Int) < 4) = true from rfl, cond_true, chk_pos (by decide), lt_eq, show gi [(r : Int), (g : Int), (b : Int), (a : Int)] (0 : Int) = (r : Int) from rfl, w64_h hr, f1, Option.bind_some, chk_pos (by rw [l1]; decide), chk_pos (ck _ _ (by first | omega | (simp only [List.length_append, List.length_cons, List.length_nil]; omega)) (by first | omega | (simp only [List.length_append, List.length_cons, List.length_nil]; omega))), show w64 ((0 : Int) + 1) = 1 from rfl]
 rw [show k + 4 = (k + 3) + 1 from rfl, parseval_Shown_L2, show decide ((1 : Int) < 4) = true from rfl, cond_true, chk_pos (by decide), lt_eq, show gi [(r : Int), (g : Int), (b : Int), (a : Int)] (1 : Int) = (g : Int) from rfl, w64_h hg, f2, Option.bind_some, chk_pos (by rw [l2]; decide), chk_pos (ck _ _ (by first | omega | (simp only [List.length_append, List.length_cons, List.length_nil]; omega)) (by first | omega | (simp only [List.length_append, List.length_cons, List.length_nil]; omega))), show w64 ((1 : Int) + 1) = 2 from rfl]
 rw [show k + 3 = (k + 2) + 1 from rfl, parseval_Shown_L2, show decide ((2 : Int) < 4) = true from rfl, cond_true, chk_pos (by decide), lt_eq, show gi [(r : Int), (g : Int), (b : Int), (a : Int)] (2 : Int) = (b : Int) from rfl, w64_h hb, f3, Option.bind_some, chk_pos (by rw [l3]; decide), chk_pos (ck _ _ (by first | omega | (simp only [List.length_append, List.length_cons, List.length_nil]; omega)) (by first | omega | (simp only [List.length_append, List.length_cons, List.length_nil]; omega))), show w64 ((2 : Int) + 1) = 3 from rfl]
 rw [show k + 2 = (k + 1) + 1 from rfl, parseval_Shown_L2, show decide ((3 : Int) < 4) = true from rfl, cond_true, chk_pos (by decide), lt_eq, show gi [(r : Int), (g : Int), (b : Int), (a : Int)] (3 : Int) = (a : Int) from rfl, w64_h ha, f4, Option.bind_some, chk_pos (by rw [l4]; decide), chk_pos (ck _ _ (by first | omega | (simp only [List.length_append, List.length_cons, List.length_nil]; omega)) (by first | omega | (simp only [List.length_append, List.length_cons, List.length_nil]; omega))), show w64 ((3 : Int) + 1) = 4 from rfl]
 rw [parseval_Shown_L2, show decide ((4 : Int) < 4) = false from rfl, cond_false]
def hx (d : Nat) : UInt8 := if d < 10 then UInt8.ofNat (48 + d) else UInt8.ofNat (87 + d)
theorem hex_all : ((List.range 256).all fun n => match strconv_FormatInt 300 ((256 + n : Nat) : Int) with
  | some y => decide (ln y = 3) && (sub y 1 (ln y) == [hx (n / 16), hx (n % 16)])
  | _ => false) = true := by kernel_rfl
theorem hex_at {n : Nat} (h : n < 256) : ∃ y, strconv_FormatInt 300 ((256 + n : Nat) : Int) = some y ∧ ln y = 3 ∧ sub y 1 (ln y) = [hx (n / 16), hx (n % 16)] := by
 have h1 := nat_all hex_all h
 cases h2 : strconv_FormatInt 300 ((256 + n : Nat) : Int) with
 | none => rw [h2] at h1; cases h1
 | some y =>
  rw [h2] at h1
  simp only [Bool.and_eq_true, decide_eq_true_eq, beq_iff_eq] at h1
  exact ⟨y, rfl, h1.1, h1.2⟩
def cN (r g b a : Nat) : TColor := ⟨(r : Int), (g : Int), (b : Int), (a : Int)⟩
def fig8 (r g b a : Nat) : List Nat := [r / 16, r % 16, g / 16, g % 16, b / 16, b % 16, a / 16, a % 16]
def rgbS (r g b : Nat) : Str := [114, 103, 98, 40] ++ (Lib.decDigits r ++ (44 :: 32 :: (Lib.decDigits g ++ (44 :: 32 :: (Lib.decDigits b ++ [41])))))
theorem shown_hash (r g b a : Nat) (hr : r < 256) (hg : g < 256) (hb : b < 256) (ha : a < 256) (h : a ≠ 255) : parseval_Shown 300 (cN r g b a) = some (35 :: (fig8 r g b a).map hx) := by
 obtain ⟨y1, f1, l1, e1⟩ := hex_at hr
 obtain ⟨y2, f2, l2, e2⟩ := hex_at hg
 obtain ⟨y3, f3, l3, e3⟩ := hex_at hb
 obtain ⟨y4, f4, l4, e4⟩ := hex_at ha
 have h2 := shown_L2 r g b a hr hg hb ha f1 f2 f3 f4 l1 l2 l3 l4 295
 unfold parseval_Shown cN
 dsimp only
 rw [show ((a : Int) == 255) = false from beq_eq_false_iff_ne.2 (by omega), cond_false, Option.bind_some]
 show Option.bind (parseval_Shown_L2 300 ⟨(r : Int), (g : Int), (b : Int), (a : Int)⟩ 300 [35] 0) _ = _
 rw [show parseval_Shown_L2 300 ⟨(r : Int), (g : Int), (b : Int), (a : Int)⟩ 300 [35] 0 = _ from h2, e1, e2, e3, e4]
 rfl
theorem shown_rgb (r g b : Nat) (hr : r < 256) (hg : g < 256) (hb : b < 256) : parseval_Shown 300 (cN r g b 255) = some (rgbS r g b) := by
 unfold parseval_Shown cN
 dsimp only
 have lr := dd_len 15 r (by show _ < 10000000000000000; omega)
 have lg := dd_len 15 g (by show _ < 10000000000000000; omega)
 have lb := dd_len 15 b (by show _ < 10000000000000000; omega)
 have ck : ∀ {α β : Type} (x : List α) (y : List β), x.length ≤ 1000 → y.length ≤ 1000 → ln x + ln y ≤ 9223372036854775807 := fun x y h1 h2 => by unfold ln; omega
 rw [show ((((255 : Nat) : Int)) == 255) = true from rfl, cond_true, show parseval_Shown_L1 300 ⟨(r : Int), (g : Int), (b : Int), ((255 : Nat) : Int)⟩ 300 [] 0 = _ from shown_L1 r g b 255 hr hg hb 296, Option.bind_some, join_eq 300 _ [44, 32] ⟨by decide, by decide⟩ (by simp) (by simp) (by simp only [tot, List.map_cons, List.map_nil, List.sum_cons, List.sum_nil]; omega), Option.bind_some]
 have hj : jn [44, 32] [Lib.decDigits r, Lib.decDigits g, Lib.decDigits b] = Lib.decDigits r ++ ([44, 32] ++ (Lib.decDigits g ++ ([44, 32] ++ Lib.decDigits b))) := by
  unfold jn
  simp [List.flatMap]
 rw [hj, chk_pos (ck _ _ (by simp) (by simp only [List.length_append, List.length_cons, List.length_nil]; omega)), chk_pos (ck _ _ (by simp only [List.length_append, List.length_cons, List.length_nil]; omega) (by simp)), Option.bind_some]
 show some _ = some _
 congr 1
 unfold rgbS
 simp only [List.append_assoc, List.cons_append, List.nil_append]
def mkB (c : UInt8) : Bool := !(spc1 c) && !(isb 34 c) && !(isb 39 c) && !(isb 35 c) && !(isg c) && !(isb 46 c) && !(isd c) && !(isb 45 c) && !(isb 60 c) && !(isb 64 c) && !(fst1 c) && !(isb 92 c)
theorem one_mark (s : Str) (hs : s.length ≤ 250) (i : Nat) (c : UInt8) (r : Str) (k : Int) (hd : s.drop i = c :: r) (hm : mkB c = true) (hk : r02_mark (c.toNat : Int) = k) (h0 : k ≠ 0) : r02_One 300 s (i : Int) = some (TToken.mk k [] 0 [] false, ((i + 1 : Nat) : Int)) := by
 unfold mkB at hm
 simp only [Bool.and_eq_true, Bool.not_eq_true'] at hm
 obtain ⟨⟨⟨⟨⟨⟨⟨⟨⟨⟨⟨m1, m2⟩, m3⟩, m4⟩, m5⟩, m6⟩, m7⟩, m8⟩, m9⟩, m10⟩, m11⟩, m12⟩ := hm
 have hi := drop_len hd
 have hb := get_at hd
 have hn : numAt s i = false := by
  unfold numAt skipS
  dsimp only
  rw [tst_at0 hd, m5, cond_false, tst_at0 hd, m6, cond_false, tst_at0 hd, m7]
 have hnm : nam s i = false := by
  unfold nam
  rw [tst_at0 hd, m8, cond_false, tst_at0 hd, m11, cond_false]
  exact esc_no (by rw [tst_at0 hd]; exact m12)
 have e64 : ((bat s (i : Int)) == 64) = false := by rw [hb]; exact beq_eq_false_iff_ne.2 (by unfold isb at m10; have := beq_eq_false_iff_ne.1 m10; omega)
 rw [one_ahead s hs i c r hd m1 m2 m3 m4, numberA_r s (by omega) i (by omega), hn, Option.bind_some, cond_false, has_no s (by omega) i (by omega) 45 [45, 62] (by decide) (by rw [tst_at0 hd]; exact m8), Option.bind_some, cond_false, has_no s (by omega) i (by omega) 60 [33, 45, 45] (by decide) (by rw [tst_at0 hd]; exact m9), Option.bind_some, cond_false, e64, cond_false, Option.bind_some, cond_false, cond_false, nam_r s i (by omega), hnm, Option.bind_some, cond_false, hb, hk, show (k != 0) = true from bne_iff_ne.2 h0, cond_true, w64_ix (by omega)]
theorem one_space (s : Str) (hs : s.length ≤ 250) (i : Nat) (c : UInt8) (r : Str) (hd : s.drop i = 32 :: c :: r) (hc : spc1 c = false) : r02_One 300 s (i : Int) = some (TToken.mk 13 [] 0 [] false, ((i + 1 : Nat) : Int)) := by
 have hi := drop_len hd
 have hd2 := drop_nx hd
 have hb := get_at hd
 have f1 : r02_spaces_L1 300 s 300 (i : Int) = some ((i + 1 : Nat) : Int) := by
  rw [r02_spaces_L1, at_nat, Option.bind_some, space_r, tst_at0 hd, show spc1 32 = true from rfl, cond_true, w64_ix (by omega), r02_spaces_L1, at_nat, Option.bind_some, space_r, tst_at0 hd2, hc]
  rfl
 unfold r02_One r02_spaces
 rw [chk_ix hi, hb, show r02_Space ((32 : UInt8).toNat : Int) = true from rfl, cond_true, f1]
 rfl
end Go.Proofs.YtemchjneoalnoaaGreatDoor

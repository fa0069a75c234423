/-
 Declarations: their errors, their ranks, and whether they are in order: both readers see the same. No program in sight.
-/
import Derived.Test.YtehlikdeobajcaaGreatDoorT2
set_option linter.unusedVariables false
set_option maxRecDepth 100000
namespace Go.Proofs.YtehlikdeobajcaaGreatDoor
open Go Go.V Go.RowKit
abbrev FU : Nat := 1100000
theorem fu_lt : 1048577 < FU := by decide
def mrg : Str := [109, 97, 114, 103, 105, 110]
def isShort (w : Str) : Bool := cond (w == [98, 111, 114, 100, 101, 114]) true (cond (w == [111, 117, 116, 108, 105, 110, 101]) true (w == [98, 97, 99, 107, 103, 114, 111, 117, 110, 100]))
def sides : List Str := [[109, 97, 114, 103, 105, 110, 45, 116, 111, 112], [109, 97, 114, 103, 105, 110, 45, 114, 105, 103, 104, 116], [109, 97, 114, 103, 105, 110, 45, 98, 111, 116, 116, 111, 109], [109, 97, 114, 103, 105, 110, 45, 108, 101, 102, 116]]
def lgs (w : Str) : List Str × Int := cond (w == mrg) (sides, 0) (cond (isShort w) ([w ++ [45, 99, 111, 108, 111, 114]], 0) (cond ((inh w).2 != 0) ([], 6) ([w], 0)))
theorem inh2 (w : Str) : (inh w).2 = 0 ∨ (inh w).2 = 6 := by
 unfold inh
 cases cst w
 ·rw [cond_false]
  unfold findA
  cases find w with
  | none => exact Or.inr rfl
  | some r => exact Or.inl rfl
 ·exact Or.inl rfl
theorem scan4 (a b c d x : Str) : (scanO (fun i => x == gi [a, b, c, d] i) 4 0).isSome = cond (x == a) true (cond (x == b) true (cond (x == c) true (x == d))) := by
 simp only [scanO]
 rw [show gi [a, b, c, d] ((0 : Nat) : Int) = a from rfl, show gi [a, b, c, d] ((0 + 1 : Nat) : Int) = b from rfl, show gi [a, b, c, d] ((0 + 1 + 1 : Nat) : Int) = c from rfl, show gi [a, b, c, d] ((0 + 1 + 1 + 1 : Nat) : Int) = d from rfl]
 cases (x == a) <;> cases (x == b) <;> cases (x == c) <;> cases (x == d) <;> rfl
theorem longs_p (w : Str) (hw : w.length ≤ 1048576) : short_Longs 64 w = some (lgs w) := by
 unfold short_Longs short_of lgs
 rw [lt_eq, cont_s short_Names w (by decide), Option.bind_some]
 rw [show (scanO (fun i => w == gi short_Names i) short_Names.length 0).isSome = cond (w == mrg) true (isShort w) from scan4 _ _ _ _ w]
 cases hm : (w == mrg)
 ·rw [cond_false, lt_eq]
  cases hs : isShort w
  ·rw [Bool.not_false, cond_true, Option.bind_some, cond_false]
   show Option.bind (props_Inherited 64 w) _ = _
   rw [inh_p, Option.bind_some]
   rcases inh2 w with h | h <;> rw [h] <;> rfl
  ·rw [Bool.not_true, cond_false, show (!(w == ([109, 97, 114, 103, 105, 110] : Str))) = true from by rw [show (w == ([109, 97, 114, 103, 105, 110] : Str)) = false from hm]; rfl, cond_true, chk_pos (by unfold ln; simp only [List.length_cons, List.length_nil]; omega), Option.bind_some]
   rfl
 ·have e : w = mrg := eq_of_beq hm
  subst e
  rw [show short_of_L1 64 mrg 64 [] 0 = some sides from by kernel_rfl]
  rfl
theorem longs_r (w : Str) (hw : w.length ≤ 1048576) : r27_Longs 64 w = some (lgs w) := by
 unfold r27_Longs r27_longs lgs
 rw [show (w == ([109, 97, 114, 103, 105, 110] : Str)) = (w == mrg) from rfl]
 cases hm : (w == mrg)
 ·simp only [lt_eq, cond_false]
  have e : (cond (w == ([98, 111, 114, 100, 101, 114] : Str)) (some (w == ([98, 111, 114, 100, 101, 114] : Str))) (cond (w == ([111, 117, 116, 108, 105, 110, 101] : Str)) (some (w == ([111, 117, 116, 108, 105, 110, 101] : Str))) (some (w == ([98, 97, 99, 107, 103, 114, 111, 117, 110, 100] : Str))))) = some (isShort w) := by
   unfold isShort
   cases (w == ([98, 111, 114, 100, 101, 114] : Str)) <;> cases (w == ([111, 117, 116, 108, 105, 110, 101] : Str)) <;> rfl
  rw [e, Option.bind_some]
  cases hs : isShort w
  ·rw [cond_false, Option.bind_some]
   show Option.bind (r25_Inherited 64 w) _ = _
   rw [inh_r, Option.bind_some]
   rcases inh2 w with h | h <;> rw [h] <;> rfl
  ·rw [cond_true, chk_pos (by unfold ln; simp only [List.length_cons, List.length_nil]; omega), Option.bind_some]
   rfl
 ·rfl
theorem lgs_len (w : Str) : (lgs w).1.length ≤ 4 := by
 unfold lgs
 cases (w == mrg) <;> cases isShort w <;> cases ((inh w).2 != 0) <;> exact Nat.le_of_ble_eq_true rfl
def whO (w n : Str) : Bool := cond (w == []) true (cond (w == n) false (cond ((lgs w).2 == 0) (scanO (fun i => n == gi (lgs w).1 i) (lgs w).1.length 0).isSome false))
def rngI (n : Int) : Bool := cond (decide (0 ≤ n)) (decide (n ≤ 1000000)) false
def atO (d : TDeclared) : Bool := cond d.Attached (cond (cond (d.Origin != 3) true (d.Layer != 0)) true (!((d.Weight.e0 == 0) && ((d.Weight.e1 == 0) && ((d.Weight.e2 == 0) && true))))) false
def okD (d : TDeclared) : Bool :=
 cond ((inh d.Long.Name).2 != 0) false (cond (chV d.Long.Value != 0) false (cond (whO d.Long.Whole d.Long.Name) (cond (rngI d.Layer && rngI d.Order && rngI d.Weight.e0 && rngI d.Weight.e1 && rngI d.Weight.e2) (cond (cond (decide (d.Origin < 1)) true (decide (3 < d.Origin))) false (!(atO d))) false) false))
def ckI (d : TDeclared) : Int := cond (okD d) 0 8
def small (d : TDeclared) : Prop := zVs d.Long.Value ≤ 1048576 ∧ d.Long.Whole.length ≤ 1048576 ∧ d.Long.Name.length ≤ 1048576
theorem rngI_not (n : Int) : cond (decide (n < 0)) true (decide (1000000 < n)) = !(rngI n) := by
 unfold rngI
 by_cases h1 : n < 0
 ·rw [decide_eq_true h1, decide_eq_false (show ¬ 0 ≤ n from by omega)]; rfl
 ·rw [decide_eq_false h1, decide_eq_true (show 0 ≤ n from by omega), cond_false, cond_true]
  by_cases h2 : n ≤ 1000000
  ·rw [decide_eq_true h2, decide_eq_false (by omega)]; rfl
  ·rw [decide_eq_false h2, decide_eq_true (by omega)]; rfl
theorem five (m : Nat) (d : TDeclared) (hm : 5 < m) : sorter_Check_L1 m d m 0 = some (cond (rngI d.Layer && rngI d.Order && rngI d.Weight.e0 && rngI d.Weight.e1 && rngI d.Weight.e2) (.inr ()) (.inl 8)) := by
 obtain ⟨k, rfl⟩ : ∃ k, m = k + 6 := ⟨m - 6, by omega⟩
 have step : ∀ (kk i : Nat) (hi : i < 5), sorter_Check_L1 (k + 6) d (kk + 1) (i : Int) = cond (rngI (gi [d.Layer, d.Order, d.Weight.e0, d.Weight.e1, d.Weight.e2] (i : Int))) (sorter_Check_L1 (k + 6) d kk ((i + 1 : Nat) : Int)) (some (.inl 8)) := by
  intro kk i hi
  rw [sorter_Check_L1, decide_eq_true (show ((i : Int) < 5) from by omega), cond_true, chk_pos (by omega), lt_eq, lt_eq, rngI_not, w64_ix (by omega)]
  cases rngI _ <;> rfl
 have e5 : ∀ kk, sorter_Check_L1 (k + 6) d (kk + 1) ((5 : Nat) : Int) = some (.inr ()) := fun kk => by rw [sorter_Check_L1]; rfl
 rw [show (0 : Int) = ((0 : Nat) : Int) from rfl, step _ 0 (by decide), step _ 1 (by decide), step _ 2 (by decide), step _ 3 (by decide), step _ 4 (by decide), e5]
 show cond (rngI d.Layer) (cond (rngI d.Order) (cond (rngI d.Weight.e0) (cond (rngI d.Weight.e1) (cond (rngI d.Weight.e2) _ _) _) _) _) _ = _
 cases rngI d.Layer <;> cases rngI d.Order <;> cases rngI d.Weight.e0 <;> cases rngI d.Weight.e1 <;> cases rngI d.Weight.e2 <;> rfl
theorem check_p (d : TDeclared) (h : small d) : sorter_Check FU d = some (ckI d) := by
 obtain ⟨h1, h2, h3⟩ := h
 unfold sorter_Check ckI okD
 rw [inh_p, Option.bind_some]
 cases hi : ((inh d.Long.Name).2 != 0)
 ·simp only [cond_false]
  rw [nest_ok FU fu_lt _ h1, Option.bind_some]
  cases hc : (chV d.Long.Value != 0)
  ·simp only [cond_false]
   have e : (cond (!(d.Long.Whole == [])) (Option.bind (short_Longs 64 d.Long.Whole) fun y21 =>
     Option.bind (cond (y21.2 != 0) (some default) (slices_Contains_string_string 64 y21.1 d.Long.Name)) fun y28 =>
     lt (cond (cond (y21.2 != 0) true (!y28)) true (d.Long.Whole == d.Long.Name)) fun x29 =>
     cond x29 (some (.inl 8)) (some (.inr ()))) (some (.inr ())) : Option (Sum Int Unit)) = some (cond (whO d.Long.Whole d.Long.Name) (.inr ()) (.inl 8)) := by
    unfold whO
    cases (d.Long.Whole == [])
    ·rw [Bool.not_false, cond_true, longs_p _ h2, Option.bind_some, cond_false]
     unfold bne
     cases hl : ((lgs d.Long.Whole).2 == 0)
     ·rw [Bool.not_false, cond_true, Option.bind_some, lt_eq]
      cases (d.Long.Whole == d.Long.Name) <;> rfl
     ·rw [Bool.not_true, cond_false, cont_s _ _ (by have := lgs_len d.Long.Whole; omega), Option.bind_some, lt_eq]
      cases (scanO (fun i => d.Long.Name == gi (lgs d.Long.Whole).1 i) (lgs d.Long.Whole).1.length 0).isSome <;> cases (d.Long.Whole == d.Long.Name) <;> rfl
    ·rfl
   rw [e, Option.bind_some]
   cases whO d.Long.Whole d.Long.Name
   ·rfl
   ·rw [cond_true]
    show Option.bind (sorter_Check_L1 FU d FU 0) _ = _
    rw [five FU d (by decide), Option.bind_some]
    cases (rngI d.Layer && rngI d.Order && rngI d.Weight.e0 && rngI d.Weight.e1 && rngI d.Weight.e2)
    ·rfl
    ·show lt _ _ = _
     rw [lt_eq]
     cases hx : (cond (decide (d.Origin < 1)) true (decide (3 < d.Origin)))
     ·rw [cond_false, lt_eq]
      show cond (atO d) _ _ = _
      cases atO d <;> rfl
     ·rfl
  ·rfl
 ·rfl
theorem in_eq (n : Int) : r29_in n = rngI n := rfl
theorem check_r (d : TDeclared) (h : small d) : r29_Check FU d = some (ckI d) := by
 obtain ⟨h1, h2, h3⟩ := h
 unfold r29_Check ckI okD
 rw [inh_r, Option.bind_some]
 cases hi : ((inh d.Long.Name).2 != 0)
 ·simp only [cond_false]
  rw [ref_ok FU fu_lt _ h1, Option.bind_some]
  cases hc : (chV d.Long.Value != 0)
  ·simp only [cond_false]
   have e : r29_whole FU d.Long = some (whO d.Long.Whole d.Long.Name) := by
    unfold r29_whole whO
    cases (d.Long.Whole == [])
    ·rw [cond_false, cond_false]
     cases (d.Long.Whole == d.Long.Name)
     ·rw [cond_false, cond_false, longs_r _ h2, Option.bind_some]
      cases hl : ((lgs d.Long.Whole).2 == 0)
      ·rw [cond_false, r29_whole_L1, hl]
       rfl
      ·have hn := lgs_len d.Long.Whole
       have hs := scan_of (r29_whole_L1 FU d.Long (lgs d.Long.Whole)) (fun i => d.Long.Name == gi (lgs d.Long.Whole).1 i) (fun _ => Sum.inl true) (Sum.inr ()) (ln (lgs d.Long.Whole).1) (lgs d.Long.Whole).1.length rfl (by omega)
        (fun kk i hi => by
         rw [r29_whole_L1, hl, cond_true, lt_eq, scan_chk hi]
         rw [show ((gi (lgs d.Long.Whole).1 i) == d.Long.Name) = (d.Long.Name == gi (lgs d.Long.Whole).1 i) from beqc _ _]) (lgs d.Long.Whole).1.length 0 FU rfl (Nat.zero_le _) (by unfold FU; omega)
       rw [cond_true, show (0 : Int) = ((0 : Nat) : Int) from rfl, hs, Option.bind_some]
       cases scanO (fun i => d.Long.Name == gi (lgs d.Long.Whole).1 i) (lgs d.Long.Whole).1.length 0 <;> rfl
     ·rfl
    ·rfl
   rw [e, Option.bind_some, lt_eq]
   cases whO d.Long.Whole d.Long.Name
   ·rfl
   ·simp only [lt_eq, in_eq, Bool.not_true, cond_false, cond_true]
    have e1 : (if true = true then (d.Origin) else 0) = d.Origin := rfl
    show _ = some (cond (cond _ (cond _ false (!(atO d))) false) 0 8)
    show cond _ (some 8) (cond (atO d) (some 8) (some 0)) = _
    cases (cond (decide (d.Origin < 1)) true (decide (3 < d.Origin))) <;> cases rngI d.Layer <;> cases rngI d.Order <;> cases rngI d.Weight.e0 <;> cases rngI d.Weight.e1 <;> cases rngI d.Weight.e2 <;> cases atO d <;> rfl
  ·rfl
 ·rfl
def ltB : List Int → List Int → Bool
 | a :: r, b :: s => cond (decide (a < b)) true (cond (decide (b < a)) false (ltB r s))
 | _, _ => false
theorem lt_trans' : ∀ (a b c : List Int), a.length = b.length → b.length = c.length → ltB b a = false → ltB c b = false → ltB c a = false
 | [], [], [], _, _, _, _ => rfl
 | x :: a, y :: b, z :: c, h1, h2, h3, h4 => by
  simp only [ltB] at h3 h4 ⊢
  have ih := lt_trans' a b c (by simpa using h1) (by simpa using h2)
  by_cases p1 : y < x
  ·rw [decide_eq_true p1] at h3; cases h3
  ·by_cases p2 : z < y
   ·rw [decide_eq_true p2] at h4; cases h4
   ·rw [decide_eq_false p1, cond_false] at h3
    rw [decide_eq_false p2, cond_false] at h4
    rw [decide_eq_false (show ¬ z < x from by omega), cond_false]
    by_cases p3 : x < z
    ·rw [decide_eq_true p3]; rfl
    ·rw [decide_eq_false p3, cond_false]
     rw [decide_eq_false (show ¬ x < y from by omega), cond_false] at h3
     rw [decide_eq_false (show ¬ y < z from by omega), cond_false] at h4
     exact ih h3 h4
theorem rank_len (d : TDeclared) : (sorter_rank d).length = 7 := rfl
theorem cmp_i (x y : Int) : cmp_Compare_int x y = if x < y then -1 else if y < x then 1 else 0 := by
 unfold cmp_Compare_int cmp_isNaN_int
 rw [bne_self_eq_false, bne_self_eq_false, cond_false, cond_false]
 by_cases h1 : x < y
 ·rw [decide_eq_true h1, if_pos h1]; rfl
 ·rw [decide_eq_false h1, if_neg h1, cond_false]
  by_cases h2 : y < x
  ·rw [decide_eq_true h2, if_pos h2]; rfl
  ·rw [decide_eq_false h2, if_neg h2]; rfl
theorem cmp_L1 (a b : List Int) (hl : a.length = b.length) (ha : a.length < 50) : ∀ (kk i : Nat), a.length - i < kk → i ≤ a.length →
  ∃ z : Sum Int Unit, slices_Compare_int_int_L1 64 a b kk (i : Int) = some z ∧ (match z with
   | .inl c => decide (c < 0) = ltB (a.drop i) (b.drop i)
   | .inr _ => ltB (a.drop i) (b.drop i) = false) := by
 intro kk
 induction kk with
 | zero => intro i h; omega
 | succ kk ih =>
  intro i h hi
  rw [slices_Compare_int_int_L1]
  by_cases h1 : i < a.length
  ·have h2 : i < b.length := by omega
   rw [lt_dec h1, cond_true, chk_ix h1, decide_eq_false (show ¬ ln b ≤ (i : Int) from by unfold ln; omega), cond_false, chk_ix h2, lt_eq, cmp_i, gi_nat a i h1, gi_nat b i h2, List.drop_eq_getElem_cons h1, List.drop_eq_getElem_cons h2, ltB]
   by_cases p1 : a[i] < b[i]
   ·rw [if_pos p1, decide_eq_true p1]
    exact ⟨.inl (-1), rfl, rfl⟩
   ·rw [if_neg p1, decide_eq_false p1, cond_false]
    by_cases p2 : b[i] < a[i]
    ·rw [if_pos p2, decide_eq_true p2]
     exact ⟨.inl 1, rfl, rfl⟩
    ·rw [if_neg p2, decide_eq_false p2, cond_false, w64_ix (by omega)]
     exact ih (i + 1) (by omega) (by omega)
  ·rw [ge_dec (by omega), cond_false, List.drop_eq_nil_of_le (by omega)]
   exact ⟨.inr (), rfl, rfl⟩
theorem compare_p (m : Nat) (a b : TDeclared) : ∃ c, sorter_compare m a b = some c ∧ decide (c < 0) = ltB (sorter_rank a) (sorter_rank b) := by
 unfold sorter_compare slices_Compare_int_int
 rw [lt_eq, lt_eq]
 obtain ⟨z, h1, h2⟩ := cmp_L1 (sorter_rank a) (sorter_rank b) rfl (by rw [rank_len]; decide) 64 0 (by rw [rank_len]; decide) (Nat.zero_le _)
 rw [show (0 : Int) = ((0 : Nat) : Int) from rfl, h1, Option.bind_some]
 rw [List.drop_zero, List.drop_zero] at h2
 cases z with
 | inl c => exact ⟨c, rfl, h2⟩
 | inr u => exact ⟨0, rfl, h2.symm⟩
def tl7 (x : TA7_int) : List Int := [x.e0, x.e1, x.e2, x.e3, x.e4, x.e5, x.e6]
theorem ranked_eq (d : TDeclared) : tl7 (r29_Ranked d) = sorter_rank d := by
 unfold r29_Ranked sorter_rank tl7
 simp only [lt_eq]
theorem less_L1 (x y : TA7_int) : ∀ (kk i : Nat), 7 - i < kk → i ≤ 7 → r29_Less_L1 64 x y kk (i : Int) = some (cond (ltB ((tl7 x).drop i) ((tl7 y).drop i)) (.inl true) (cond (ltB ((tl7 y).drop i) ((tl7 x).drop i)) (.inl false) (.inr ()))) := by
 intro kk
 induction kk with
 | zero => intro i h; omega
 | succ kk ih =>
  intro i h hi
  rw [r29_Less_L1]
  by_cases h1 : i < 7
  ·have hx : i < (tl7 x).length := h1
   have hy : i < (tl7 y).length := h1
   rw [decide_eq_true (show (i : Int) < 7 from by omega), cond_true, chk_pos (by omega), lt_eq, lt_eq, lt_eq, lt_eq]
   show cond (gi (tl7 x) (i : Int) != gi (tl7 y) (i : Int)) (some (Sum.inl (decide (gi (tl7 x) (i : Int) < gi (tl7 y) (i : Int)))) : Option (Sum Bool Unit)) _ = _
   have dx : (tl7 x).drop i = gi (tl7 x) (i : Int) :: (tl7 x).drop (i + 1) := by rw [gi_nat _ i hx]; exact List.drop_eq_getElem_cons hx
   have dy : (tl7 y).drop i = gi (tl7 y) (i : Int) :: (tl7 y).drop (i + 1) := by rw [gi_nat _ i hy]; exact List.drop_eq_getElem_cons hy
   rw [dx, dy, ltB, ltB]
   obtain ⟨p, hp⟩ : ∃ p, p = gi (tl7 x) (i : Int) := ⟨_, rfl⟩
   obtain ⟨q, hq⟩ : ∃ q, q = gi (tl7 y) (i : Int) := ⟨_, rfl⟩
   rw [← hp, ← hq]
   by_cases p1 : p < q
   ·rw [decide_eq_true p1, show (p != q) = true from bne_iff_ne.2 (by omega)]; rfl
   ·by_cases p2 : q < p
    ·rw [decide_eq_false p1, decide_eq_true p2, show (p != q) = true from bne_iff_ne.2 (by omega)]; rfl
    ·rw [decide_eq_false p1, decide_eq_false p2, show (p != q) = false from by rw [show p = q from by omega]; exact bne_self_eq_false _]
     rw [cond_false, w64_ix (by omega), ih (i + 1) (by omega) (by omega)]
     rfl
  ·rw [decide_eq_false (show ¬ (i : Int) < 7 from by omega), cond_false]
   have hx : (tl7 x).length ≤ i := by show 7 ≤ i; omega
   have hy : (tl7 y).length ≤ i := by show 7 ≤ i; omega
   rw [List.drop_eq_nil_of_le hx, List.drop_eq_nil_of_le hy]
   rfl
theorem less_r (a b : TDeclared) : r29_Less 64 a b = some (ltB (sorter_rank a) (sorter_rank b)) := by
 unfold r29_Less
 rw [lt_eq, lt_eq, show (0 : Int) = ((0 : Nat) : Int) from rfl, less_L1 _ _ 64 0 (by decide) (by decide), Option.bind_some, List.drop_zero, List.drop_zero, ranked_eq, ranked_eq]
 cases ltB (sorter_rank a) (sorter_rank b)
 ·cases ltB (sorter_rank b) (sorter_rank a) <;> rfl
 ·rfl
def adj : List TDeclared → Bool
 | x :: y :: r => (!(ltB (sorter_rank y) (sorter_rank x))) && adj (y :: r)
 | _ => true
def askI (l : List TDeclared) : Int := cond (l.all okD) (cond (adj l) 0 2) 8
def smalls (l : List TDeclared) : Prop := l.length ≤ 1048576 ∧ ∀ d ∈ l, small d
theorem adj_drop {l : List TDeclared} {i : Nat} (h : i + 1 < l.length) : adj (l.drop i) = ((!(ltB (sorter_rank (gi l ((i + 1 : Nat) : Int))) (sorter_rank (gi l (i : Int))))) && adj (l.drop (i + 1))) := by
 rw [gi_nat l (i + 1) h, gi_nat l i (by omega), List.drop_eq_getElem_cons (by omega : i < l.length), List.drop_eq_getElem_cons h, adj]
theorem adj_end {l : List TDeclared} {i : Nat} (h : l.length ≤ i + 1) : adj (l.drop i) = true := by
 have hl : (l.drop i).length ≤ 1 := by rw [List.length_drop]; omega
 generalize l.drop i = q at hl
 match q, hl with
 | [], _ => rfl
 | [x], _ => rfl
theorem asked_L1 (l : List TDeclared) (h : smalls l) : ∀ (kk i : Nat), l.length - i < kk → i ≤ l.length → wide_asked_L1 FU l kk (i : Int) = some (cond ((l.drop i).all okD) (.inr ()) (.inl 8)) := by
 obtain ⟨hl, hs⟩ := h
 intro kk
 induction kk with
 | zero => intro i h; omega
 | succ kk ih =>
  intro i h hi
  rw [wide_asked_L1]
  by_cases h1 : i < l.length
  ·rw [lt_dec h1, cond_true, chk_ix h1, check_p _ (hs _ (gi_mem' h1)), Option.bind_some, w64_ix (by omega), List.drop_eq_getElem_cons h1, List.all_cons, gi_nat l i h1, ih (i + 1) (by omega) (by omega)]
   unfold ckI
   cases okD l[i] <;> rfl
  ·rw [ge_dec (by omega), cond_false, List.drop_eq_nil_of_le (by omega)]
   rfl
theorem all_L1 (l : List TDeclared) (h : smalls l) : ∀ (kk i : Nat), l.length - i < kk → i ≤ l.length → r29_All_L1 FU l kk (i : Int) = some (cond ((l.drop i).all okD) (.inr ()) (.inl 8)) := by
 obtain ⟨hl, hs⟩ := h
 intro kk
 induction kk with
 | zero => intro i h; omega
 | succ kk ih =>
  intro i h hi
  rw [r29_All_L1]
  by_cases h1 : i < l.length
  ·rw [lt_dec h1, cond_true, chk_ix h1, check_r _ (hs _ (gi_mem' h1)), Option.bind_some, w64_ix (by omega), List.drop_eq_getElem_cons h1, List.all_cons, gi_nat l i h1, ih (i + 1) (by omega) (by omega)]
   unfold ckI
   cases okD l[i] <;> rfl
  ·rw [ge_dec (by omega), cond_false, List.drop_eq_nil_of_le (by omega)]
   rfl
theorem before_p (a b : TDeclared) (ha : small a) (hb : small b) (oa : okD a = true) (ob : okD b = true) : sorter_Before FU a b = some (ltB (sorter_rank a) (sorter_rank b), 0) := by
 unfold sorter_Before sorter_check
 have e : sorter_check_L1 FU [a, b] FU 0 = some (.inr ()) := by
  have f0 : ∀ k, sorter_check_L1 FU [a, b] (k + 1) ((0 : Nat) : Int) = sorter_check_L1 FU [a, b] k ((1 : Nat) : Int) := fun k => by
   rw [sorter_check_L1, lt_dec (show 0 < 2 from by decide), cond_true, chk_ix (show 0 < 2 from by decide), show gi [a, b] ((0 : Nat) : Int) = a from rfl, check_p a ha, ckI, oa, Option.bind_some, w64_ix (by decide)]; rfl
  have f1 : ∀ k, sorter_check_L1 FU [a, b] (k + 1) ((1 : Nat) : Int) = sorter_check_L1 FU [a, b] k ((2 : Nat) : Int) := fun k => by
   rw [sorter_check_L1, lt_dec (show 1 < 2 from by decide), cond_true, chk_ix (show 1 < 2 from by decide), show gi [a, b] ((1 : Nat) : Int) = b from rfl, check_p b hb, ckI, ob, Option.bind_some, w64_ix (by decide)]; rfl
  have f2 : ∀ k, sorter_check_L1 FU [a, b] (k + 1) ((2 : Nat) : Int) = some (.inr ()) := fun k => by
   rw [sorter_check_L1, ge_dec (show 2 ≤ 2 from by decide), cond_false]
  exact (f0 1099999).trans ((f1 1099998).trans (f2 1099997))
 rw [e, Option.bind_some]
 show Option.bind (some (0 : Int)) _ = _
 rw [Option.bind_some]
 obtain ⟨c, h1, h2⟩ := compare_p FU a b
 rw [h1, Option.bind_some, h2]
 rfl
theorem asked_L2 (l : List TDeclared) (h : smalls l) (ho : ∀ d ∈ l, okD d = true) : ∀ (kk i : Nat), l.length - i < kk → i ≤ l.length → wide_asked_L2 FU l kk ((i + 1 : Nat) : Int) = some (cond (adj (l.drop i)) (.inr ()) (.inl 2)) := by
 obtain ⟨hl, hs⟩ := h
 intro kk
 induction kk with
 | zero => intro i h; omega
 | succ kk ih =>
  intro i h hi
  rw [wide_asked_L2]
  by_cases h1 : i + 1 < l.length
  ·have e0 : w64 (((i + 1 : Nat) : Int) - 1) = (i : Int) := by rw [w64_id (by omega) (by omega)]; omega
   rw [lt_dec h1, cond_true, chk_ix h1, e0, chk_ix (by omega : i < l.length), before_p _ _ (hs _ (gi_mem' h1)) (hs _ (gi_mem' (by omega))) (ho _ (gi_mem' h1)) (ho _ (gi_mem' (by omega))), Option.bind_some, w64_ix (by omega), adj_drop h1, ih (i + 1) (by omega) (by omega)]
   cases ltB _ _ <;> rfl
  ·rw [ge_dec (by omega), cond_false, adj_end (by omega)]
   rfl
theorem order_L1 (l : List TDeclared) (hl : l.length ≤ 1048576) : ∀ (kk i : Nat), l.length - i < kk → i ≤ l.length → r29_InOrder_L1 FU l kk ((i + 1 : Nat) : Int) = some (cond (adj (l.drop i)) (.inr ()) (.inl false)) := by
 intro kk
 induction kk with
 | zero => intro i h; omega
 | succ kk ih =>
  intro i h hi
  rw [r29_InOrder_L1]
  by_cases h1 : i + 1 < l.length
  ·have e0 : w64 (((i + 1 : Nat) : Int) - 1) = (i : Int) := by rw [w64_id (by omega) (by omega)]; omega
   rw [lt_dec h1, cond_true, chk_ix h1, e0, chk_ix (by omega : i < l.length), less_r, Option.bind_some, w64_ix (by omega), adj_drop h1, ih (i + 1) (by omega) (by omega)]
   cases ltB _ _ <;> rfl
  ·rw [ge_dec (by omega), cond_false, adj_end (by omega)]
   rfl
theorem asked_p (l : List TDeclared) (h : smalls l) : wide_asked FU l = some (askI l) := by
 have hl := h.1
 unfold wide_asked askI
 have h1 := asked_L1 l h FU 0 (by unfold FU; omega) (Nat.zero_le _)
 rw [List.drop_zero] at h1
 rw [show (0 : Int) = ((0 : Nat) : Int) from rfl, h1, Option.bind_some]
 cases ha : l.all okD
 ·rfl
 ·have ho : ∀ d ∈ l, okD d = true := List.all_eq_true.1 ha
  have h2 := asked_L2 l h ho FU 0 (by unfold FU; omega) (Nat.zero_le _)
  rw [List.drop_zero] at h2
  show Option.bind (wide_asked_L2 FU l FU ((0 + 1 : Nat) : Int)) _ = _
  rw [h2, Option.bind_some]
  cases adj l <;> rfl
theorem asked_r (l : List TDeclared) (h : smalls l) : r31_Asked FU l = some (askI l) := by
 have hl := h.1
 unfold r31_Asked r29_All r29_InOrder askI
 have h1 := all_L1 l h FU 0 (by unfold FU; omega) (Nat.zero_le _)
 rw [List.drop_zero] at h1
 rw [show (0 : Int) = ((0 : Nat) : Int) from rfl, h1, Option.bind_some]
 cases ha : l.all okD
 ·rfl
 ·have h2 := order_L1 l hl FU 0 (by unfold FU; omega) (Nat.zero_le _)
  rw [List.drop_zero] at h2
  show Option.bind (Option.bind (r29_InOrder_L1 FU l FU ((0 + 1 : Nat) : Int)) _) _ = _
  rw [h2, Option.bind_some]
  cases adj l <;> rfl
theorem adj_pair : ∀ l : List TDeclared, adj l = true → l.Pairwise fun x y => ltB (sorter_rank y) (sorter_rank x) = false
 | [], _ => List.Pairwise.nil
 | [x], _ => by simp
 | x :: y :: r, h => by
  rw [adj, Bool.and_eq_true, Bool.not_eq_true'] at h
  have ih := adj_pair (y :: r) h.2
  refine List.Pairwise.cons (fun z hz => ?_) ih
  rcases List.mem_cons.1 hz with rfl | hz
  ·exact h.1
  ·exact lt_trans' (sorter_rank x) (sorter_rank y) (sorter_rank z) rfl rfl h.1 (List.rel_of_pairwise_cons ih hz)
theorem pair_adj : ∀ l : List TDeclared, (l.Pairwise fun x y => ltB (sorter_rank y) (sorter_rank x) = false) → adj l = true
 | [], _ => rfl
 | [x], _ => rfl
 | x :: y :: r, h => by
  rw [adj, Bool.and_eq_true, Bool.not_eq_true']
  exact ⟨List.rel_of_pairwise_cons h List.mem_cons_self, pair_adj (y :: r) (List.Pairwise.of_cons h)⟩
theorem ask_filter (l : List TDeclared) (q : TDeclared → Bool) (h : askI l = 0) : askI (l.filter q) = 0 := by
 unfold askI at h ⊢
 cases ha : l.all okD
 ·rw [ha] at h; cases h
 ·rw [ha, cond_true] at h
  cases hb : adj l
  ·rw [hb] at h; cases h
  ·have h1 : (l.filter q).all okD = true := List.all_eq_true.2 fun d hd => List.all_eq_true.1 ha d (List.mem_filter.1 hd).1
   have h2 : adj (l.filter q) = true := pair_adj _ ((adj_pair l hb).filter _)
   rw [h1, h2]; rfl
theorem ask_ok {l : List TDeclared} (h : askI l = 0) : ∀ d ∈ l, okD d = true := by
 unfold askI at h
 cases ha : l.all okD
 ·rw [ha] at h; cases h
 ·exact List.all_eq_true.1 ha
theorem ok_origin {d : TDeclared} (h : okD d = true) : 1 ≤ d.Origin ∧ d.Origin ≤ 3 := by
 unfold okD at h
 cases h1 : ((inh d.Long.Name).2 != 0) <;> rw [h1] at h
 ·cases h2 : (chV d.Long.Value != 0) <;> rw [h2] at h
  ·cases h3 : whO d.Long.Whole d.Long.Name <;> rw [h3] at h
   ·cases h
   ·cases h4 : (rngI d.Layer && rngI d.Order && rngI d.Weight.e0 && rngI d.Weight.e1 && rngI d.Weight.e2) <;> rw [h4] at h
    ·cases h
    ·by_cases p1 : d.Origin < 1
     ·rw [decide_eq_true p1] at h; cases h
     ·by_cases p2 : 3 < d.Origin
      ·rw [decide_eq_false p1, decide_eq_true p2] at h; cases h
      ·omega
  ·cases h
 ·cases h
end Go.Proofs.YtehlikdeobajcaaGreatDoor

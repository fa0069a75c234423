/-
 ShortValues: a wide keyword is never right for a longhand; the part of a longhand is its value. No program in sight.
-/
import Derived.Test.YtpgflfjmjppmeaaGreatDoorU4
set_option linter.unusedVariables false
set_option maxRecDepth 100000
namespace Go.Proofs.YtpgflfjmjppmeaaGreatDoor
open Go Go.V Go.RowKit
theorem psm_L1 (m : Nat) (s : Str) : ∀ (kk : Nat) (i : Int) (l : List Int), parseval_small_L1 m s kk i l = short_small_L1 m s kk i l := by
 intro kk
 induction kk with
 | zero => intro i l; rfl
 | succ kk ih => intro i l; rw [parseval_small_L1, short_small_L1]; simp only [ih]
theorem psm (m : Nat) (s : Str) : parseval_small m s = short_small m s := by
 unfold parseval_small short_small
 simp only [psm_L1]
def kwv (y : Str) : TValue := TValue.mk (TToken.mk 1 y 0 [] false) []
theorem named_kw (x y : Str) (h1 : short_small FU x = some y) (h2 : short_small FU y = some y) : parseval_Named FU x = parseval_Named FU y := by
 unfold parseval_Named
 rw [psm FU x, psm FU y, h1, h2]
theorem color_kw (t y : Str) (n : Int) (u : Str) (f : Bool) (l : List TValue) (h : parseval_Named FU t = parseval_Named FU y) : parseval_color FU ⟨⟨1, t, n, u, f⟩, l⟩ = parseval_color FU (kwv y) := by
 unfold parseval_color kwv
 dsimp only [TValue.Token]
 rw [h, show ((1 : Int) == 1) = true from rfl, cond_true, cond_true]
theorem maybe_kw (x : TValue) (y : Str) (hk : x.Token.Kind = 1) (h1 : short_small FU x.Token.Text = some y) (h2 : short_small FU y = some y) : parseval_maybe FU x = parseval_maybe FU (kwv y) := by
 obtain ⟨⟨k, t, n, u, f⟩, l⟩ := x
 dsimp only [TValue.Token] at hk h1
 subst hk
 unfold parseval_maybe
 rw [color_kw t y n u f l (named_kw t y h1 h2)]
 generalize parseval_color FU (kwv y) = C
 unfold kwv
 dsimp only [TValue.Token]
 rw [psm FU t, psm FU y, h1, h2, show ((1 : Int) == 1) = true from rfl]
 refine congrArg _ (funext fun z => ?_)
 rw [cond_true, cond_true]
theorem parse_kw (p : Int) (x : TValue) (y : Str) (h : parseval_maybe FU x = parseval_maybe FU (kwv y)) : parseval_Parse FU p [x] = parseval_Parse FU p [kwv y] := by
 unfold parseval_Parse
 rw [show gi [x] (0 : Int) = x from rfl, show gi [kwv y] (0 : Int) = kwv y from rfl, h]
 rfl
theorem rgt_kw (n : Str) (x : TValue) (y : Str) (h : parseval_maybe FU x = parseval_maybe FU (kwv y)) : rgt n [x] = rgt n [kwv y] := by
 unfold rgt short_right
 simp only [find_p, Option.bind_some, parse_kw _ x y h]
def kws (n : Str) : Bool := words.all fun y => !(rgt n [kwv y])
theorem kw_all : (los mrg).all kws = true ∧ (los [98, 111, 114, 100, 101, 114]).all kws = true ∧ (los [111, 117, 116, 108, 105, 110, 101]).all kws = true ∧ (los [98, 97, 99, 107, 103, 114, 111, 117, 110, 100]).all kws = true := by
 refine ⟨?_, ?_, ?_, ?_⟩
 ·kernel_rfl
 ·kernel_rfl
 ·kernel_rfl
 ·kernel_rfl
theorem kw_of {w n y : Str} (h : isL w = true) (hn : n ∈ los w) (hy : y ∈ words) : rgt n [kwv y] = false := by
 have hl : kws n = true := by
  rcases isL_4 h with e | e | e | e
  ·rw [e] at hn; exact List.all_eq_true.1 kw_all.1 n hn
  ·rw [e] at hn; exact List.all_eq_true.1 kw_all.2.1 n hn
  ·rw [e] at hn; exact List.all_eq_true.1 kw_all.2.2.1 n hn
  ·rw [e] at hn; exact List.all_eq_true.1 kw_all.2.2.2 n hn
 have := List.all_eq_true.1 hl y hy
 simpa using this
theorem words_self : ∀ y ∈ words, short_small FU y = some y := by
 intro y hy
 unfold words at hy
 simp only [List.mem_cons, List.not_mem_nil, or_false] at hy
 rcases hy with h | h | h | h <;> subst h <;> kernel_rfl
theorem wid_inv (v : List TValue) (hv : zVs v ≤ 1048576) (h : wid v ≠ []) : ∃ x y, v = [x] ∧ x.Token.Kind = 1 ∧ short_small FU x.Token.Text = some y ∧ y ∈ words := by
 have hw : short_Wide FU v = some (wid v) := (wide_ex v hv).1
 unfold short_Wide at hw
 by_cases h1 : ln v = 1
 ·have h0 : 0 ≤ (0 : Int) ∧ (0 : Int) < ln v := by omega
  rw [chk_pos (fun _ => h0), lt_eq] at hw
  cases hx : (cond (ln v == 1) ((gi v (0 : Int)).Token.Kind == 1) false)
  ·rw [hx] at hw
   exact absurd (Option.some.inj hw).symm h
  ·rw [hx, cond_true, chk_pos h0] at hw
   have hm : gi v (0 : Int) ∈ v := gi_mem' (i := 0) (by unfold ln at h1; omega)
   have h2 := z_mem hm
   have h3 : (gi v (0 : Int)).Token.Text.length ≤ 1048576 := by have := z_tok1 (gi v (0 : Int)); omega
   obtain ⟨r, hr⟩ := smallS_ex _ h3
   rw [hr, Option.bind_some] at hw
   have hw2 : Option.bind (Option.bind (slices_Contains_string_string 64 words r) (fun y16 => cond y16 (some (Sum.inl r) : Option (Sum Str Unit)) (some (Sum.inr ())))) (fun z3 => sumK z3 fun _ => some []) = some (wid v) := hw
   have hv1 : v = [gi v (0 : Int)] := by
    match v, h1 with
    | [a], _ => rfl
    | [], h1 => exact absurd h1 (by decide)
    | _ :: _ :: _, h1 => unfold ln at h1; simp only [List.length_cons] at h1; omega
   have hk : (gi v (0 : Int)).Token.Kind = 1 := by
    rw [h1] at hx
    exact eq_of_beq hx
   refine ⟨gi v (0 : Int), r, hv1, hk, hr, ?_⟩
   rw [cont4, Option.bind_some] at hw2
   unfold words
   cases b1 : (r == ([105, 110, 105, 116, 105, 97, 108] : Str))
   ·cases b2 : (r == ([105, 110, 104, 101, 114, 105, 116] : Str))
    ·cases b3 : (r == UNS)
     ·cases b4 : (r == REV)
      ·rw [b1, b2, b3, b4] at hw2
       exact absurd (Option.some.inj hw2).symm h
      ·rw [eq_of_beq b4]; simp [REV]
     ·rw [eq_of_beq b3]; simp [UNS]
    ·rw [eq_of_beq b2]; simp
   ·rw [eq_of_beq b1]; simp
 ·have hb : (ln v == 1) = false := by simpa using h1
  rw [hb, chk_pos (fun h => by cases h), lt_eq] at hw
  exact absurd (Option.some.inj hw).symm h
theorem rgt_wid {w n : Str} {a : List TValue} (hL : isL w = true) (hn : n ∈ los w) (ha : zVs a ≤ 1048576) (hr : rgt n a = true) : wid a = [] := by
 cases hw : decide (wid a = [])
 ·obtain ⟨x, y, h1, h2, h3, h4⟩ := wid_inv a ha (of_decide_eq_false hw)
  rw [h1, rgt_kw n x y (maybe_kw x y h2 h3 (words_self y h4)), kw_of hL hn h4] at hr
  cases hr
 ·exact of_decide_eq_true hw
theorem ix_mrg : ((List.range 4).all fun i => slices_Index_string_string FU sides (gi sides (i : Int)) == some (i : Int)) = true := by kernel_rfl
theorem ix_at (w : Str) (i : Nat) (hL : isL w = true) (hi : i < (los w).length) : slices_Index_string_string FU (los w) (gi (los w) (i : Int)) = some (i : Int) := by
 rcases isL_4 hL with e | e | e | e
 ·subst e
  exact eq_of_beq (nat_all ix_mrg (show i < 4 from hi))
 ·subst e
  obtain rfl : i = 0 := by have hi1 : i < 1 := hi; omega
  kernel_rfl
 ·subst e
  obtain rfl : i = 0 := by have hi1 : i < 1 := hi; omega
  kernel_rfl
 ·subst e
  obtain rfl : i = 0 := by have hi1 : i < 1 := hi; omega
  kernel_rfl
theorem ix_nil (long : Str) : slices_Index_string_string FU [] long = some (-1) := by kernel_rfl
theorem part_x (w : Str) (v : List TValue) (i : Nat) (hw : w.length ≤ 1048576) (hv : zVs v ≤ 1048576) (hc : chV v = 0) (hL : isL w = true) (hi : i < (los w).length) (hlen : (prt w v).length = (los w).length) :
  short_Part FU w (gi (los w) (i : Int)) v = some (gi (prt w v) (i : Int), 0) := by
 unfold short_Part
 rw [nest_ok FU fu_lt v hv, Option.bind_some, show (chV v != 0) = false from bne_eq_false_iff_eq.2 hc, cond_false, of_p w hw, Option.bind_some, ix_at w i hL hi, Option.bind_some, decide_eq_false (by omega), cond_false, parts_p w v hw hv, Option.bind_some, show ((ln (prt w v)) == 0) = false from beq_eq_false_iff_ne.2 (by unfold ln; omega), cond_false, chk_ix (by omega),
  show short_clone FU (gi (prt w v) (i : Int)) = some (gi (prt w v) (i : Int)) from clone_r FU fu_lt FU _ (by have := prt_mem w v hv _ (gi_mem' (show i < (prt w v).length by omega)); unfold FU; omega) (prt_mem w v hv _ (gi_mem' (show i < (prt w v).length by omega)))]
 rfl
theorem part_none (w long : Str) (v : List TValue) (hw : w.length ≤ 1048576) (hv : zVs v ≤ 1048576) (hL : isL w = false) : ∃ e, short_Part FU w long v = some ([], e) := by
 have hlos : los w = [] := by
  unfold isL at hL
  have := of_decide_eq_false hL
  unfold ln at this
  exact List.eq_nil_of_length_eq_zero (by omega)
 unfold short_Part
 rw [nest_ok FU fu_lt v hv, Option.bind_some]
 cases (chV v != 0)
 ·rw [cond_false, of_p w hw, Option.bind_some, hlos, ix_nil, Option.bind_some]
  exact ⟨_, rfl⟩
 ·exact ⟨_, rfl⟩
end Go.Proofs.YtpgflfjmjppmeaaGreatDoor

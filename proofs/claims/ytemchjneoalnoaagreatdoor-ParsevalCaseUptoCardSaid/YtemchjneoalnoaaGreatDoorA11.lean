/-
 A colour's text is read as the colour, second part: the function. No program in sight.
-/
import Derived.Test.YtemchjneoalnoaaGreatDoorA10
set_option linter.unusedVariables false
namespace Go.Proofs.YtemchjneoalnoaaGreatDoor
open Go Go.V
set_option maxRecDepth 100000
theorem nam_no {s : Str} {i : Nat} {c : UInt8} {r : Str} (hd : s.drop i = c :: r) (hm : mkB c = true) : nam s i = false := by
 unfold mkB at hm
 simp only [Bool.and_eq_true, Bool.not_eq_true'] at hm
 obtain ⟨⟨⟨⟨⟨⟨⟨⟨⟨⟨⟨m1, m2⟩, m3⟩, m4⟩, m5⟩, m6⟩, m7⟩, m8⟩, m9⟩, m10⟩, m11⟩, m12⟩ := hm
 unfold nam
 rw [tst_at0 hd, m8, cond_false, tst_at0 hd, m11, cond_false]
 exact esc_no (by rw [tst_at0 hd]; exact m12)
def nmB (c : UInt8) : Bool := !(spc1 c) && !(isb 34 c) && !(isb 39 c) && !(isb 35 c) && !(isg c) && !(isb 46 c) && !(isd c) && !(isb 45 c) && !(isb 60 c) && !(isb 64 c) && fst1 c
theorem one_word (s : Str) (hs : s.length ≤ 250) (c : UInt8) (r : Str) (hd : s = c :: r) (hm : nmB c = true) : r02_One 300 s 0 = Option.bind (r02_word 300 s 0) fun y86 => some (y86.1, y86.2) := by
 unfold nmB at hm
 simp only [Bool.and_eq_true, Bool.not_eq_true'] at hm
 obtain ⟨⟨⟨⟨⟨⟨⟨⟨⟨⟨m1, m2⟩, m3⟩, m4⟩, m5⟩, m6⟩, m7⟩, m8⟩, m9⟩, m10⟩, m11⟩ := hm
 have hd : s.drop 0 = c :: r := hd
 have hi := drop_len hd
 have hb := get_at hd
 have hn : numAt s 0 = false := by
  unfold numAt skipS
  dsimp only
  rw [tst_at0 hd, m5, cond_false, tst_at0 hd, m6, cond_false, tst_at0 hd, m7]
 have hnm : nam s 0 = true := by
  unfold nam
  rw [tst_at0 hd, m8, cond_false, tst_at0 hd, m11, cond_true]
 have e64 : ((bat s ((0 : Nat) : Int)) == 64) = false := by rw [hb]; exact beq_eq_false_iff_ne.2 (by unfold isb at m10; have := beq_eq_false_iff_ne.1 m10; omega)
 have h := one_ahead s hs 0 c r hd m1 m2 m3 m4
 rw [numberA_r s (by omega) 0 (by omega), hn, Option.bind_some, cond_false, has_no s (by omega) 0 (by omega) 45 [45, 62] (by decide) (by rw [tst_at0 hd]; exact m8), Option.bind_some, cond_false, has_no s (by omega) 0 (by omega) 60 [33, 45, 45] (by decide) (by rw [tst_at0 hd]; exact m9), Option.bind_some, cond_false, e64, cond_false, Option.bind_some, cond_false, cond_false, nam_r s 0 (by omega), hnm, Option.bind_some, cond_true] at h
 exact h
theorem one_func (W R : Str) (c : UInt8) (r : Str) (hW : W = c :: r) (hm : nmB c = true) (hw : ∀ b ∈ W, let1 b = true) (hl : (W ++ 40 :: R).length ≤ 250) (hu : r01_Alike 300 W [117, 114, 108] = some false) : r02_One 300 (W ++ 40 :: R) 0 = some (TToken.mk 2 W 0 [] false, ((W.length + 1 : Nat) : Int)) := by
 rw [one_word (W ++ 40 :: R) hl c (r ++ 40 :: R) (by rw [hW]; rfl) hm]
 have hd0 : (W ++ 40 :: R).drop 0 = W ++ 40 :: R := rfl
 have hd1 : (W ++ 40 :: R).drop (0 + W.length) = 40 :: R := drop_ap hd0
 have hn := named_run (W ++ 40 :: R) W (40 :: R) hl 0 (Nat.zero_le _) hd0 hw (by rw [tst_at0 hd1]; rfl) (esc_no (by rw [tst_at0 hd1]; rfl))
 rw [Nat.zero_add] at hn hd1
 have hn' : r02_Named 300 (W ++ 40 :: R) 0 = some (W, ((W.length : Nat) : Int)) := hn
 have hlen := drop_len hd1
 unfold r02_word
 rw [hn', Option.bind_some, at_nat, Option.bind_some]
 have e40 : (pk (W ++ 40 :: R) W.length 0 != 40) = false := by
  rw [show (40 : Int) = ((40 : Nat) : Int) from rfl, pk_ne _ _ _ _ (by decide), tst_at0 hd1]; rfl
 dsimp only
 rw [e40, cond_false, hu, Option.bind_some, cond_false, Option.bind_some]
 show some (TToken.mk 2 W 0 [] false, w64 (((W.length : Nat) : Int) + 1)) = _
 rw [w64_ix (by omega)]
theorem dd_t (r : Nat) (h : r < 256) : NumT (Lib.decDigits r) ((1000 * r : Nat) : Int) true := by
 have ht := numT [] (Or.inl rfl) (1000 * r) (by omega)
 rw [numS_eq, show 1000 * r / 1000 = r from by omega, show 1000 * r % 1000 = 0 from by omega, show Nat.beq 0 0 = true from rfl, cond_true, List.append_nil, List.nil_append] at ht
 exact ht
def RGB : Str := [114, 103, 98]
def fT : TToken := TToken.mk 2 RGB 0 [] false
def nT (r : Nat) : TToken := TToken.mk 10 [] ((1000 * r : Nat) : Int) [] true
def mT (k : Int) : TToken := TToken.mk k [] 0 [] false
theorem dd_pos (u : Nat) : 0 < (Lib.decDigits u).length := List.length_pos_iff.2 (dd_ne u)
theorem isd_not {c : UInt8} (h : isd c = true) : isb 47 c = false ∧ spc1 c = false := by
 have hc' : 48 ≤ c.toNat ∧ c.toNat ≤ 57 := by unfold isd at h; simpa using h
 refine ⟨by unfold isb; exact beq_eq_false_iff_ne.2 (by omega), ?_⟩
 unfold spc1 r02_Space
 rw [show ((c.toNat : Int) == 10) = false from beq_eq_false_iff_ne.2 (by omega), show ((c.toNat : Int) == 9) = false from beq_eq_false_iff_ne.2 (by omega), show ((c.toNat : Int) == 32) = false from beq_eq_false_iff_ne.2 (by omega)]
 rfl
theorem no47 {s : Str} {i : Nat} {c : UInt8} {q : Str} (h : s.drop i = c :: q) (hc : isb 47 c = false) : tst (isb 47) s i = false := by rw [tst_at0 h]; exact hc
theorem no47d {s : Str} {i u : Nat} {q : Str} (h : s.drop i = Lib.decDigits u ++ q) : tst (isb 47) s i = false := by
 obtain ⟨c, r, e, hd⟩ := dd_head u
 exact no47 (c := c) (q := r ++ q) (by rw [h, e]; rfl) (isd_not hd).1
theorem sp_dd {s : Str} (hs : s.length ≤ 250) {i u : Nat} {q : Str} (h : s.drop i = 32 :: (Lib.decDigits u ++ q)) : r02_One 300 s (i : Int) = some (mT 13, ((i + 1 : Nat) : Int)) := by
 obtain ⟨c, r, e, hd⟩ := dd_head u
 exact one_space s hs i c (r ++ q) (by rw [h, e]; rfl) (isd_not hd).2
theorem num_dd {s : Str} (hs : s.length ≤ 250) {i u : Nat} {c : UInt8} {q : Str} (hu : u < 256) (hi : i ≤ s.length) (h : s.drop i = Lib.decDigits u ++ c :: q) (hR : stopB (c :: q) = true) (hm : mkB c = true) (h37 : isb 37 c = false) : r02_One 300 s (i : Int) = some (nT u, ((i + (Lib.decDigits u).length : Nat) : Int)) :=
 one_num s _ _ _ _ (dd_t u hu) hs i hi h hR (nam_no (drop_ap h) hm) (by rw [tst_at0 (drop_ap h)]; exact h37)
theorem rgb_tk (r g b : Nat) (hr : r < 256) (hg : g < 256) (hb : b < 256) : Tk (rgbS r g b) 0 [fT, nT r, mT 18, mT 13, nT g, mT 18, mT 13, nT b, mT 22] := by
 have lr := dd_len 15 r (by show _ < 10000000000000000; omega)
 have lg := dd_len 15 g (by show _ < 10000000000000000; omega)
 have lb := dd_len 15 b (by show _ < 10000000000000000; omega)
 have pr := dd_pos r
 have pg := dd_pos g
 have pb := dd_pos b
 have hsl : (rgbS r g b).length = 4 + (Lib.decDigits r).length + 2 + (Lib.decDigits g).length + 2 + (Lib.decDigits b).length + 1 := by unfold rgbS; simp only [List.length_append, List.length_cons, List.length_nil]; omega
 have d4 : (rgbS r g b).drop 4 = Lib.decDigits r ++ (44 :: 32 :: (Lib.decDigits g ++ (44 :: 32 :: (Lib.decDigits b ++ [41])))) := rfl
 have hle : (RGB ++ 40 :: (Lib.decDigits r ++ (44 :: 32 :: (Lib.decDigits g ++ (44 :: 32 :: (Lib.decDigits b ++ [41])))))).length ≤ 250 := by show (rgbS r g b).length ≤ 250; omega
 have o0 : r02_One 300 (rgbS r g b) 0 = some (fT, ((4 : Nat) : Int)) := one_func RGB _ 114 [103, 98] rfl (by decide) (by decide) hle (by kernel_rfl)
 clear hle
 generalize rgbS r g b = s at *
 have d5 := drop_ap d4
 have d6 := drop_nx d5
 have d7 := drop_nx d6
 have d8 := drop_ap d7
 have d9 := drop_nx d8
 have d10 := drop_nx d9
 have d11 := drop_ap d10
 have d12 := drop_nx d11
 have hs : s.length ≤ 250 := by omega
 refine Tk.cons 0 4 _ _ (by omega) o0 (by decide) (by omega) (no47d d4) ?_
 refine Tk.cons 4 _ _ _ (by omega) (num_dd hs hr (by omega) d4 rfl (by decide) (by decide)) (by omega) (by omega) (no47 d5 rfl) ?_
 refine Tk.cons _ _ _ _ (by omega) (one_mark s hs _ 44 _ 18 d5 (by decide) (by decide) (by decide)) (by omega) (by omega) (no47 d6 rfl) ?_
 refine Tk.cons _ _ _ _ (by omega) (sp_dd hs d6) (by omega) (by omega) (no47d d7) ?_
 refine Tk.cons _ _ _ _ (by omega) (num_dd hs hg (by omega) d7 rfl (by decide) (by decide)) (by omega) (by omega) (no47 d8 rfl) ?_
 refine Tk.cons _ _ _ _ (by omega) (one_mark s hs _ 44 _ 18 d8 (by decide) (by decide) (by decide)) (by omega) (by omega) (no47 d9 rfl) ?_
 refine Tk.cons _ _ _ _ (by omega) (sp_dd hs d9) (by omega) (by omega) (no47d d10) ?_
 refine Tk.cons _ _ _ _ (by omega) (num_dd hs hb (by omega) d10 rfl (by decide) (by decide)) (by omega) (by omega) (no47 d11 rfl) ?_
 refine Tk.cons _ _ _ _ (by omega) (one_mark s hs _ 41 _ 22 d11 (by decide) (by decide) (by decide)) (by omega) (by omega) (tst_nil d12) ?_
 have e : 4 + (Lib.decDigits r).length + 1 + 1 + (Lib.decDigits g).length + 1 + 1 + (Lib.decDigits b).length + 1 = s.length := by omega
 rw [e]
 exact Tk.nil
def tvT (t : TToken) : TValue := TValue.mk t []
def rgbV (r g b : Nat) : TValue := TValue.mk fT [tvT (nT r), tvT (mT 18), tvT (mT 13), tvT (nT g), tvT (mT 18), tvT (mT 13), tvT (nT b)]
theorem rgb_parse (r g b : Nat) : r04_Parse 300 [fT, nT r, mT 18, mT 13, nT g, mT 18, mT 13, nT b, mT 22] = some ([rgbV r g b], 0) := by kernel_rfl
theorem dd_clean (u : Nat) : ∀ x ∈ Lib.decDigits u, clB x = true := by
 intro x hx
 have h := dd_dig (u + 1) u (by omega) x hx
 have hc' : 48 ≤ x.toNat ∧ x.toNat ≤ 57 := by unfold isd at h; simpa using h
 unfold clB
 exact decide_eq_true (by omega)
theorem of_rgb (r g b : Nat) (hr : r < 256) (hg : g < 256) (hb : b < 256) : r04_Of 300 (rgbS r g b) = some [rgbV r g b] := by
 have lr := dd_len 15 r (by show _ < 10000000000000000; omega)
 have lg := dd_len 15 g (by show _ < 10000000000000000; omega)
 have lb := dd_len 15 b (by show _ < 10000000000000000; omega)
 have hsl : (rgbS r g b).length ≤ 250 := by unfold rgbS; simp only [List.length_append, List.length_cons, List.length_nil]; omega
 have hc : ∀ x ∈ rgbS r g b, clB x = true := by
  intro x hx
  unfold rgbS at hx
  simp only [List.mem_append, List.mem_cons, List.not_mem_nil, or_false] at hx
  rcases hx with (h | h | h | h) | h | h | h | h | h | h | h | h
  all_goals first | exact dd_clean _ x h | (rw [h]; rfl)
 unfold r04_Of
 rw [tokens_of (rgbS r g b) hsl hc rfl _ (rgb_tk r g b hr hg hb) (by show 9 ≤ 1000; decide), Option.bind_some]
 show Option.bind (r04_Parse 300 [fT, nT r, mT 18, mT 13, nT g, mT 18, mT 13, nT b, mT 22]) _ = _
 rw [rgb_parse]
 rfl
theorem of_hash (r g b a : Nat) (hr : r < 256) (hg : g < 256) (hb : b < 256) (ha : a < 256) : ∃ f, r04_Of 300 (35 :: (fig8 r g b a).map hx) = some [TValue.mk (TToken.mk 4 ((fig8 r g b a).map hx) 0 [] f) []] := by
 have hf := fig_lt r g b a hr hg hb ha
 have hall : ∀ x ∈ (fig8 r g b a).map hx, let1 x = true ∧ clB x = true := by
  intro x hx
  obtain ⟨d, hd, rfl⟩ := List.mem_map.1 hx
  exact ⟨(hx_at (hf d hd)).1, (hx_at (hf d hd)).2.1⟩
 obtain ⟨f, ho⟩ := one_hash ((fig8 r g b a).map hx) (by show 8 ≤ 100; decide) (by intro h; cases h) (fun x hx => (hall x hx).1)
 refine ⟨f, of_one _ (by show 9 ≤ 250; decide) ?_ rfl (by show 0 < 9; decide) _ ho rfl⟩
 intro x hx
 rcases List.mem_cons.1 hx with rfl | hx
 ·rfl
 ·exact (hall x hx).2
theorem rgb2 (u : List Int) (i : Nat) (v : Nat) (h : v < 256) (hi : i < u.length) (hg : gi u (i : Int) = ((1000 * v : Nat) : Int)) : parseval_rgb_2 (i : Int) u = some (v : Int) := by
 unfold parseval_rgb_2
 rw [chk_ix hi, hg, lt_eq, tdiv_pos (by omega), show ((1000 * v : Nat) : Int) / 1000 = (v : Int) from by omega, w64_id (by omega) (by omega)]
 have e : (if (v : Int) < 255 then (v : Int) else 255) = (v : Int) := by split <;> omega
 rw [e]
 have e2 : (if (0 : Int) < (v : Int) then (v : Int) else 0) = (v : Int) := by split <;> omega
 rw [e2, wu8_id (by omega) (by omega)]
theorem rgb_p (r g b : Nat) (hr : r < 256) (hg : g < 256) (hb : b < 256) : parseval_rgb 300 (rgbV r g b).List_ = some (cN r g b 255, true) := by
 unfold parseval_rgb
 have h1 : parseval_rgb_L1 300 (rgbV r g b).List_ 300 0 [] [] = some ([110, 44, 110, 44, 110], [((1000 * r : Nat) : Int), ((1000 * g : Nat) : Int), ((1000 * b : Nat) : Int)]) := by kernel_rfl
 have g0 := rgb2 [((1000 * r : Nat) : Int), ((1000 * g : Nat) : Int), ((1000 * b : Nat) : Int), 1000] 0 r hr (by show 0 < 4; decide) rfl
 have g1 := rgb2 [((1000 * r : Nat) : Int), ((1000 * g : Nat) : Int), ((1000 * b : Nat) : Int), 1000] 1 g hg (by show 1 < 4; decide) rfl
 have g2 := rgb2 [((1000 * r : Nat) : Int), ((1000 * g : Nat) : Int), ((1000 * b : Nat) : Int), 1000] 2 b hb (by show 2 < 4; decide) rfl
 generalize ((1000 * r : Nat) : Int) = x at *
 generalize ((1000 * g : Nat) : Int) = y at *
 generalize ((1000 * b : Nat) : Int) = z at *
 have g0' : parseval_rgb_2 0 [x, y, z, 1000] = some (r : Int) := g0
 have g1' : parseval_rgb_2 1 [x, y, z, 1000] = some (g : Int) := g1
 have g2' : parseval_rgb_2 2 [x, y, z, 1000] = some (b : Int) := g2
 have e3 : gi [x, y, z, (1000 : Int)] (3 : Int) = 1000 := rfl
 have hA : (w64 (Int.tdiv (w64 ((if (0 : Int) < (if (1000 : Int) < 1000 then 1000 else 1000) then (if (1000 : Int) < 1000 then 1000 else 1000) else 0) * 255)) 1000)) = 255 := by decide
 have hA2 : wu8 (255 : Int) = 255 := by decide
 rw [h1, Option.bind_some]
 dsimp only
 rw [show (([110, 44, 110, 44, 110] : Str) == [110, 110, 110]) = false from rfl, cond_false, Option.bind_some, show (([110, 44, 110, 44, 110] : Str) == [110, 44, 110, 44, 110]) = true from rfl, cond_true, chk_pos (by unfold ln; simp), lt_eq, Option.bind_some]
 rw [show [x, y, z] ++ [(1000 : Int)] = [x, y, z, 1000] from rfl, sumK]
 rw [g0', Option.bind_some, g1', Option.bind_some, g2', Option.bind_some, chk_pos ⟨by decide, by unfold ln; simp⟩, lt_eq, lt_eq, e3, hA, hA2]
 rfl
theorem color_rgb (r g b : Nat) (hr : r < 256) (hg : g < 256) (hb : b < 256) : parseval_color 300 (rgbV r g b) = some (cN r g b 255, true) := by
 unfold parseval_color
 rw [show (rgbV r g b).Token.Kind = 2 from rfl, show (rgbV r g b).Token.Text = RGB from rfl, rgb_p r g b hr hg hb, show parseval_small 300 RGB = some RGB from by kernel_rfl]
 generalize cN r g b 255 = q
 simp only [show ((2 : Int) == 1) = false from rfl, show ((2 : Int) == 4) = false from rfl, show ((2 : Int) == 2) = true from rfl, cond_true, cond_false, Option.bind_some, lt_eq, show (RGB == ([114, 103, 98] : Str)) = true from rfl, sumK]
theorem color_hash (r g b a : Nat) (hr : r < 256) (hg : g < 256) (hb : b < 256) (ha : a < 256) (f : Bool) : parseval_color 300 (TValue.mk (TToken.mk 4 ((fig8 r g b a).map hx) 0 [] f) []) = some (cN r g b a, true) := by
 unfold parseval_color
 simp only [TValue.Token, show ((4 : Int) == 1) = false from rfl, show ((4 : Int) == 4) = true from rfl, cond_true, cond_false, hash_p r g b a hr hg hb ha, Option.bind_some, sumK]
end Go.Proofs.YtemchjneoalnoaaGreatDoor

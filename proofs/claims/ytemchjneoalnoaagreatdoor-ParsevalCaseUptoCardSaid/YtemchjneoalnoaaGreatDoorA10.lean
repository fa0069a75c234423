/-
 A colour's text is read as the colour. No program in sight.
-/
import Derived.Test.YtemchjneoalnoaaGreatDoorA9
set_option linter.unusedVariables false
namespace Go.Proofs.YtemchjneoalnoaaGreatDoor
open Go Go.V
set_option maxRecDepth 100000
theorem hx_all : ((List.range 16).all fun d => let1 (hx d) && !(esc [hx d] 0) && clB (hx d) && !(isb 47 (hx d)) && !(isb 92 (hx d))) = true := by kernel_rfl
theorem hx_at {d : Nat} (h : d < 16) : let1 (hx d) = true ∧ clB (hx d) = true ∧ isb 47 (hx d) = false ∧ isb 92 (hx d) = false := by
 have h1 := nat_all hx_all h
 simp only [Bool.and_eq_true, Bool.not_eq_true'] at h1
 exact ⟨h1.1.1.1.1, h1.1.1.2, h1.1.2, h1.2⟩
theorem one_hash (W : Str) (hl : W.length ≤ 100) (h0 : W ≠ []) (hw : ∀ b ∈ W, let1 b = true) : ∃ f, r02_One 300 (35 :: W) 0 = some (TToken.mk 4 W 0 [] f, (((35 :: W).length : Nat) : Int)) := by
 obtain ⟨c, r, rfl⟩ : ∃ c r, W = c :: r := by
  cases W with
  | nil => exact absurd rfl h0
  | cons c r => exact ⟨c, r, rfl⟩
 have hs : (35 :: c :: r : Str).length ≤ 250 := by simp only [List.length_cons] at hl ⊢; omega
 have hd0 : (35 :: c :: r : Str).drop 0 = 35 :: c :: r := rfl
 have hd1 : (35 :: c :: r : Str).drop 1 = (c :: r) ++ [] := by rw [List.append_nil]; rfl
 have hend : (35 :: c :: r : Str).drop (1 + (c :: r).length) = [] := drop_ap hd1
 have hn := named_run (35 :: c :: r) (c :: r) [] hs 1 (by simp only [List.length_cons]; omega) hd1 hw (tst_nil hend) (esc_no (tst_nil hend))
 refine ⟨nam (35 :: c :: r) 1, ?_⟩
 have hb : bat (35 :: c :: r) 0 = 35 := get_at hd0
 have w1 : w64 ((0 : Int) + 1) = ((1 : Nat) : Int) := rfl
 have hlet : r02_Letter (bat (35 :: c :: r) ((1 : Nat) : Int)) = true := by
  rw [get_at (s := 35 :: c :: r) (i := 1) (b := c) (r := r) rfl]
  exact hw c List.mem_cons_self
 have h1l : decide (((1 : Nat) : Int) < ln (35 :: c :: r)) = true := lt_dec (by simp)
 have hlen : 1 + (c :: r).length = (35 :: c :: r : Str).length := by simp only [List.length_cons]; omega
 rw [hlen] at hn
 unfold r02_One
 rw [chk_pos (show 0 ≤ (0 : Int) ∧ (0 : Int) < ln (35 :: c :: r) from ⟨Int.le_refl _, by unfold ln; simp only [List.length_cons]; omega⟩), hb, w1]
 simp only [show r02_Space 35 = false from rfl, show ((35 : Int) == 34) = false from rfl, show ((35 : Int) == 39) = false from rfl, show ((35 : Int) == 35) = true from rfl, cond_false, cond_true, lt_eq, h1l, hlet]
 rw [chk_pos (fun _ _ => ⟨by decide, by unfold ln; simp only [List.length_cons]; omega⟩), Option.bind_some, hn, Option.bind_some, nam_r _ 1 (by decide), Option.bind_some]
def val16 (l : List Nat) (v : Nat) : Nat := l.foldl (fun v d => 16 * v + d) v
theorem hxv_all : ((List.range 16).all fun d => (cond (cond ((((hx d).toNat : Nat) : Int) == 95) ((16 : Int) == 0) false) (none : Option Int) (cond (cond (decide (48 ≤ (((hx d).toNat : Nat) : Int))) (decide ((((hx d).toNat : Nat) : Int) ≤ 57)) false) (some (wu8 ((((hx d).toNat : Nat) : Int) - 48))) (cond (cond (decide (97 ≤ strconv_lower (((hx d).toNat : Nat) : Int))) (decide (strconv_lower (((hx d).toNat : Nat) : Int) ≤ 122)) false) (some (wu8 (wu8 (strconv_lower (((hx d).toNat : Nat) : Int) - 97) + 10))) none))) == some (d : Int)) = true := by kernel_rfl
theorem parse_L1 (ds : List Nat) (hd : ∀ d ∈ ds, d < 16) (hl : ds.length = 8) : ∀ (kk i v : Nat), 8 - i < kk → i ≤ 8 → v < 16 ^ i →
  strconv_ParseUint_2_L1 300 16 (ds.map hx, 16) 1152921504606846976 4294967296 kk false (v : Int) (i : Int) = some (.inr (false, ((val16 (ds.drop i) v : Nat) : Int))) := by
 intro kk
 induction kk with
 | zero => intro i v h; omega
 | succ kk ih =>
  intro i v h hi hv
  rw [strconv_ParseUint_2_L1]
  have hob : (ofB (ds.map hx)).length = 8 := by unfold ofB; rw [List.length_map, List.length_map, hl]
  by_cases h1 : i < 8
  ·have hi2 : i < ds.length := by omega
   have hg : gi (ofB (ds.map hx)) (i : Int) = (((hx ds[i]).toNat : Nat) : Int) := by
    rw [gi_nat _ i (by omega)]
    unfold ofB
    rw [List.getElem_map, List.getElem_map]
   have hdi := hd _ (List.getElem_mem hi2)
   have hx0 := nat_all hxv_all hdi
   have hx1 := eq_of_beq hx0
   clear hx0
   rw [List.drop_eq_getElem_cons hi2]
   generalize hdv : ds[i] = d at *
   have e8 : 16 ^ 8 = 4294967296 := by decide
   have hp : 16 ^ (i + 1) ≤ 16 ^ 8 := Nat.pow_le_pow_right (by decide) (by omega)
   have hp1 : 16 ^ (i + 1) = 16 ^ i * 16 := Nat.pow_succ ..
   have hv2 : 16 * v + d < 16 ^ (i + 1) := by omega
   rw [show decide ((i : Int) < ln (ofB (ds.map hx))) = true from lt_dec (by omega), cond_true, chk_ix (by omega : i < (ofB (ds.map hx)).length)]
   show Option.bind (Option.bind (lt (cond ((gi (ofB (ds.map hx)) (i : Int)) == 95) ((16 : Int) == 0) false) _) _) _ = _
   rw [hg, lt_eq]
   have hz : ∃ z : Sum (Sum (Sum Int (Bool × Int)) (Bool × Int)) (Bool × Int), z = .inr (false, (d : Int)) := ⟨_, rfl⟩
   have hstep : (cond (cond ((((hx d).toNat : Nat) : Int) == 95) ((16 : Int) == 0) false) (Option.bind (some (Sum.inr (true, (v : Int)))) fun r125 => some (Sum.inl r125)) (
     lt (cond (decide (48 ≤ (((hx d).toNat : Nat) : Int))) (decide ((((hx d).toNat : Nat) : Int) ≤ 57)) false) fun x126 =>
     cond x126 (some (Sum.inr (false, wu8 ((((hx d).toNat : Nat) : Int) - 48)))) (
     lt (decide (97 ≤ strconv_lower (((hx d).toNat : Nat) : Int))) fun x131 =>
     lt (cond x131 (decide (strconv_lower (((hx d).toNat : Nat) : Int) ≤ 122)) false) fun x132 =>
     cond x132 (lt (wu8 (strconv_lower (((hx d).toNat : Nat) : Int) - 97)) fun x135 => some (Sum.inr (false, wu8 (x135 + 10)))) none)) : Option (Sum (Sum (Sum Int (Bool × Int)) (Bool × Int)) (Bool × Int))) = some (.inr (false, (d : Int))) := by
    simp only [lt_eq]
    revert hx1
    generalize (cond ((((hx d).toNat : Nat) : Int) == 95) ((16 : Int) == 0) false) = b1
    generalize (cond (decide (48 ≤ (((hx d).toNat : Nat) : Int))) (decide ((((hx d).toNat : Nat) : Int) ≤ 57)) false) = b2
    generalize (cond (decide (97 ≤ strconv_lower (((hx d).toNat : Nat) : Int))) (decide (strconv_lower (((hx d).toNat : Nat) : Int) ≤ 122)) false) = b3
    intro hx1
    cases b1
    ·cases b2
     ·cases b3
      ·cases hx1
      ·have := Option.some.inj hx1
       simp only [cond_false, cond_true, this]
     ·have := Option.some.inj hx1
      simp only [cond_false, cond_true, this]
    ·cases hx1
   rw [hstep, Option.bind_some]
   have c1 : decide ((16 : Int) ≤ (d : Int)) = false := decide_eq_false (by omega)
   have c2 : decide ((1152921504606846976 : Int) ≤ (v : Int)) = false := decide_eq_false (by omega)
   have w1 : wu64 ((v : Int) * wu64 16) = ((16 * v : Nat) : Int) := by rw [show wu64 16 = 16 from rfl, wu64_id (by omega) (by omega)]; omega
   have w2 : wu64 (((16 * v : Nat) : Int) + wu64 (d : Int)) = ((16 * v + d : Nat) : Int) := by rw [wu64_id (x := (d : Int)) (by omega) (by omega), wu64_id (by omega) (by omega)]; omega
   show Option.bind (cond (decide ((wu8 16) ≤ (d : Int))) none (cond (decide ((1152921504606846976 : Int) ≤ (v : Int))) none _)) _ = _
   rw [show wu8 16 = 16 from rfl, c1, cond_false, c2, cond_false]
   show Option.bind (lt (wu64 ((wu64 ((v : Int) * wu64 16)) + wu64 (d : Int))) _) _ = _
   rw [w1, w2, lt_eq]
   rw [decide_eq_false (show ¬ ((16 * v + d : Nat) : Int) < ((16 * v : Nat) : Int) from by omega), lt_eq]
   show Option.bind (lt (decide (wu64 ((4294967296 : Int) - 1) < ((16 * v + d : Nat) : Int))) _) _ = _
   rw [show wu64 ((4294967296 : Int) - 1) = 4294967295 from rfl, decide_eq_false (by omega), lt_eq, cond_false, Option.bind_some, w64_ix (by omega)]
   exact ih (i + 1) (16 * v + d) (by omega) (by omega) hv2
  ·have hi8 : i = 8 := by omega
   subst hi8
   rw [show decide (((8 : Nat) : Int) < ln (ofB (ds.map hx))) = false from ge_dec (by omega), cond_false, List.drop_eq_nil_of_le (by omega)]
   rfl
theorem parse_u (ds : List Nat) (hd : ∀ d ∈ ds, d < 16) (hl : ds.length = 8) : strconv_ParseUint 300 (ds.map hx) 16 32 = some ((val16 ds 0 : Nat) : Int) := by
 have h := parse_L1 ds hd hl 300 0 0 (by decide) (by decide) (by decide)
 have hne : (ds.map hx == []) = false := by
  cases ds with
  | nil => cases hl
  | cons d r => rfl
 unfold strconv_ParseUint strconv_ParseUint_2
 rw [hne, cond_false]
 show Option.bind (Option.bind (strconv_ParseUint_2_L1 300 16 (ds.map hx, 16) 1152921504606846976 4294967296 300 false 0 0) _) _ = _
 rw [show strconv_ParseUint_2_L1 300 16 (ds.map hx, 16) 1152921504606846976 4294967296 300 false 0 0 = _ from h]
 rfl
theorem hxl_all : ((List.range 16).all fun d => !(cond (cond (cond (decide ((((hx d).toNat : Nat) : Int) < 48)) true (decide (57 < (((hx d).toNat : Nat) : Int)))) (cond (decide ((((hx d).toNat : Nat) : Int) < 97)) true (decide (102 < (((hx d).toNat : Nat) : Int)))) false) (cond (decide ((((hx d).toNat : Nat) : Int) < 65)) true (decide (70 < (((hx d).toNat : Nat) : Int)))) false)) = true := by kernel_rfl
theorem hash_L2 (ds : List Nat) (hd : ∀ d ∈ ds, d < 16) (hl : ds.length = 8) : ∀ (kk i : Nat), 8 - i < kk → i ≤ 8 → parseval_hash_L2 300 (ds.map hx) kk (i : Int) = some (.inr ()) := by
 intro kk
 induction kk with
 | zero => intro i h; omega
 | succ kk ih =>
  intro i h hi
  rw [parseval_hash_L2]
  have hml : (ds.map hx).length = 8 := by rw [List.length_map, hl]
  by_cases h1 : i < 8
  ·have hi2 : i < ds.length := by omega
   have hb : bat (ds.map hx) (i : Int) = (((hx ds[i]).toNat : Nat) : Int) := by rw [bat_nat _ i (by omega), List.getElem_map]
   have hq := nat_all hxl_all (hd _ (List.getElem_mem hi2))
   rw [Bool.not_eq_true'] at hq
   rw [lt_dec (by omega), cond_true, chk_ix (by omega), hb, lt_eq, lt_eq, lt_eq, hq, cond_false, w64_ix (by omega)]
   exact ih (i + 1) (by omega) (by omega)
  ·rw [ge_dec (by omega), cond_false]
theorem fig_lt (r g b a : Nat) (hr : r < 256) (hg : g < 256) (hb : b < 256) (ha : a < 256) : ∀ d ∈ fig8 r g b a, d < 16 := by
 intro d hd
 unfold fig8 at hd
 simp only [List.mem_cons, List.not_mem_nil, or_false] at hd
 rcases hd with h | h | h | h | h | h | h | h <;> omega
theorem hash_p (r g b a : Nat) (hr : r < 256) (hg : g < 256) (hb : b < 256) (ha : a < 256) : parseval_hash 300 ((fig8 r g b a).map hx) = some (cN r g b a, true) := by
 have hf := fig_lt r g b a hr hg hb ha
 unfold parseval_hash
 have h2 := hash_L2 (fig8 r g b a) hf rfl 300 0 (by decide) (by decide)
 have h3 := parse_u (fig8 r g b a) hf rfl
 generalize hW : (fig8 r g b a).map hx = W at *
 have hl : ln W = 8 := by rw [← hW]; rfl
 have h2' : parseval_hash_L2 300 W 300 0 = some (.inr ()) := h2
 simp only [hl, show ((8 : Int) == 3) = false from rfl, show ((8 : Int) == 4) = false from rfl, show ((8 : Int) == 6) = false from rfl, show ((8 : Int) != 8) = false from rfl, cond_false, Option.bind_some, h2', h3, sumK]
 have hv : val16 (fig8 r g b a) 0 = ((r * 256 + g) * 256 + b) * 256 + a := by
  show 16 * (16 * (16 * (16 * (16 * (16 * (16 * (16 * 0 + r / 16) + r % 16) + g / 16) + g % 16) + b / 16) + b % 16) + a / 16) + a % 16 = _
  omega
 rw [hv]
 have e24 : (2 : Int) ^ 24 = 16777216 := by decide
 have e16 : (2 : Int) ^ 16 = 65536 := by decide
 have e8 : (2 : Int) ^ 8 = 256 := by decide
 rw [e24, e16, e8, fdiv_pos (by omega) (by decide), fdiv_pos (by omega) (by decide), fdiv_pos (by omega) (by decide), wu8_mod, wu8_mod, wu8_mod, wu8_mod]
 unfold cN
 congr 3
 ·omega
 ·omega
 ·omega
 ·omega
end Go.Proofs.YtemchjneoalnoaaGreatDoor

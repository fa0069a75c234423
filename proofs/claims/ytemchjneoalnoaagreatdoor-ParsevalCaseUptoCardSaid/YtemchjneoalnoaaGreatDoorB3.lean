/-
 A value that a property has is written, and read back: all kinds of values. No program in sight.
-/
import Derived.Test.YtemchjneoalnoaaGreatDoorB2
set_option linter.unusedVariables false
set_option maxRecDepth 100000
namespace Go.Proofs.YtemchjneoalnoaaGreatDoor
open Go Go.V Go.RowKit
theorem c_nat {x : TColor} (w : WfC x) : ∃ r g b a, r < 256 ∧ g < 256 ∧ b < 256 ∧ a < 256 ∧ x = cN r g b a := by
 obtain ⟨w1, w2, w3, w4⟩ := w
 obtain ⟨r, hr1, hr2⟩ := u8_nat w1
 obtain ⟨g, hg1, hg2⟩ := u8_nat w2
 obtain ⟨b, hb1, hb2⟩ := u8_nat w3
 obtain ⟨a, ha1, ha2⟩ := u8_nat w4
 refine ⟨r, g, b, a, hr2, hg2, hb2, ha2, ?_⟩
 obtain ⟨R, G, B, A⟩ := x
 simp only at hr1 hg1 hb1 ha1
 subst hr1; subst hg1; subst hb1; subst ha1
 rfl
theorem col_text {x : TColor} (w : WfC x) : ∃ s v, parseval_Shown 300 x = some s ∧ r04_Of 300 s = some [v] ∧ parseval_color 300 v = some (x, true) ∧ (v.Token.Kind = 2 ∨ v.Token.Kind = 4) := by
 obtain ⟨r, g, b, a, hr, hg, hb, ha, rfl⟩ := c_nat w
 by_cases h : a = 255
 ·subst h
  exact ⟨_, _, shown_rgb r g b hr hg hb, of_rgb r g b hr hg hb, color_rgb r g b hr hg hb, Or.inl rfl⟩
 ·obtain ⟨f, hf⟩ := of_hash r g b a hr hg hb ha
  exact ⟨_, _, shown_hash r g b a hr hg hb ha h, hf, color_hash r g b a hr hg hb ha f, Or.inr rfl⟩
theorem back (prop : Int) (v : TVal) (hw : WfC v.Color) (hh : props_Has 64 prop v = some (true, 0)) : ∃ s, parseval_Write 300 v = some (s, 0) ∧ law26_reads 300 prop s v = some true := by
 obtain ⟨⟨p, hp, rfl⟩, hc, hr, h1, h2⟩ := has_ok hh
 have hpr : 0 ≤ (p : Int) ∧ (p : Int) < 18 := by omega
 cases shape_of v hr with
 | word w hne =>
  refine ⟨w, ?_, ?_⟩
  ·unfold parseval_Write
   rw [hc]
   rfl
  ·have h := List.all_eq_true.1 (nat_all word_all hp) w (h1 rfl)
   exact of_decide_eq_true h
 | color c =>
  obtain ⟨s, u, s1, s2, s3, s4⟩ := col_text (x := c) hw
  refine ⟨s, ?_, ?_⟩
  ·unfold parseval_Write
   rw [hc]
   show Option.bind (Option.bind (Option.bind (parseval_Shown 300 c) _) _) _ = _
   rw [s1]
   rfl
  ·exact reads_of _ s u _ s2 (parse1 _ u _ [] hpr (maybe_col u c s3 s4) hh)
 | current =>
  refine ⟨[99, 117, 114, 114, 101, 110, 116, 99, 111, 108, 111, 114], ?_, ?_⟩
  ·unfold parseval_Write
   rw [hc]
   rfl
  ·have h := nat_all cur_all hp
   rw [h2 (by decide)] at h
   exact of_decide_eq_true (by simpa using h)
 | int n n1 n2 =>
  have hn := number_i (n * 1000) (by omega) (by omega)
  have hl := (numI_t (n * 1000) (by omega) (by omega)).len
  refine ⟨numI (n * 1000), ?_, ?_⟩
  ·unfold parseval_Write
   rw [hc]
   show Option.bind (parseval_number (w64 (n * 1000))) (fun y62 => chk (ln y62 + ln ([] : Str) ≤ 9223372036854775807) (some (y62 ++ ([] : Str), (0 : Int)))) = _
   rw [w64_id (by omega) (by omega), hn, Option.bind_some, chk_str _ _ _ (by omega) (by decide), List.append_nil]
  ·have ho := num_of (n * 1000) (by omega) (by omega)
   have hz : Nat.beq ((n * 1000).natAbs % 1000) 0 = true := by
    rw [show (n * 1000).natAbs % 1000 = 0 from by omega]; rfl
   rw [hz] at ho
   obtain ⟨r, hm⟩ := maybe_num (n * 1000) true
   have hd : w64 (Int.tdiv (n * 1000) 1000) = n := by rw [Int.mul_tdiv_cancel _ (by decide), w64_id (by omega) (by omega)]
   rw [hd] at hm
   exact reads_of _ _ _ _ ho (parse1 _ _ _ _ hpr hm hh)
 | num k n hk n1 n2 =>
  have dim : ∀ (U : Str) (u : UInt8) (q : Str), U = u :: q → U.length ≤ 10 → stopB U = true → (∀ b ∈ U, let1 b = true) → (∀ b ∈ U, clB b = true) → fst1 u = true → isb 45 u = false → parseval_small 300 U = some U → gi ([2, 3, 4, 0] : List Int) (x_key ([[112, 120], [101, 109], [114, 101, 109]] : List Str) U) = k → 0 < k →
    law26_reads 300 (p : Int) (numI n ++ U) ⟨k, [], n, c0⟩ = some true := by
   intro U u q e1 e2 e3 e4 e5 e6 e7 e8 e9 e10
   obtain ⟨f, ho⟩ := dim_of n n1 n2 U u q e1 e2 e3 e4 e5 e6 e7
   exact reads_of _ _ _ _ ho (parse1 _ _ _ [] hpr (maybe_dim n U f k e8 e9 e10) hh)
  rcases hk with rfl | rfl | rfl | rfl
  ·exact ⟨_, write_num 2 n [112, 120] n1 n2 hc (Or.inl ⟨rfl, rfl⟩), dim [112, 120] 112 [120] rfl (by decide) rfl (by decide) (by decide) rfl rfl (by kernel_rfl) (by kernel_rfl) (by decide)⟩
  ·exact ⟨_, write_num 3 n [101, 109] n1 n2 hc (Or.inr (Or.inl ⟨rfl, rfl⟩)), dim [101, 109] 101 [109] rfl (by decide) rfl (by decide) (by decide) rfl rfl (by kernel_rfl) (by kernel_rfl) (by decide)⟩
  ·exact ⟨_, write_num 4 n [114, 101, 109] n1 n2 hc (Or.inr (Or.inr (Or.inl ⟨rfl, rfl⟩))), dim [114, 101, 109] 114 [101, 109] rfl (by decide) rfl (by decide) (by decide) rfl rfl (by kernel_rfl) (by kernel_rfl) (by decide)⟩
  ·refine ⟨_, write_num 5 n [] n1 n2 hc (Or.inr (Or.inr (Or.inr ⟨rfl, rfl⟩))), ?_⟩
   rw [List.append_nil]
   have ho := num_of n n1 n2
   obtain ⟨r, hm⟩ := maybe_num n (Nat.beq (n.natAbs % 1000) 0)
   cases hz : Nat.beq (n.natAbs % 1000) 0
   ·rw [hz] at ho hm
    exact reads_of _ _ _ _ ho (parse1 _ _ _ _ hpr hm hh)
   ·rw [hz] at ho hm
    exact reads_of _ _ _ _ ho (parse2 _ _ _ _ _ hpr hm (not_six p hp rfl (h2 (show (5 : Int) ≠ 1 from by decide)) _) hh)
theorem alive_ok : law26_alive 300 = some true := by kernel_rfl
theorem has_tot (prop : Int) (v : TVal) : ∃ q, props_Has 64 prop v = some q := by
 obtain ⟨e, h1, h2⟩ := check_some v
 exact ⟨_, has_p prop v e h1⟩
end Go.Proofs.YtemchjneoalnoaaGreatDoor

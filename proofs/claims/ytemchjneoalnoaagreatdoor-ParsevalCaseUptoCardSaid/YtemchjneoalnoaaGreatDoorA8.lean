/-
 Tokens of a text, one by one: numbers, marks, names, hashes. No program in sight.
-/
import Derived.Test.YtemchjneoalnoaaGreatDoorA7
set_option linter.unusedVariables false
namespace Go.Proofs.YtemchjneoalnoaaGreatDoor
open Go Go.V
set_option maxRecDepth 100000
theorem esc_no {s : Str} {i : Nat} (h : tst (isb 92) s i = false) : esc s i = false := by unfold esc; rw [h]; rfl
theorem one_ahead (s : Str) (hs : s.length ≤ 250) (i : Nat) (b : UInt8) (r : Str) (hd : s.drop i = b :: r) (k1 : spc1 b = false) (k2 : isb 34 b = false) (k3 : isb 39 b = false) (k4 : isb 35 b = false) :
  r02_One 300 s (i : Int) = Option.bind (r02_NumberAt s (i : Int)) fun y43 =>
   cond y43 (Option.bind (r02_numeric 300 s (i : Int)) fun y46 => some (y46.1, y46.2)) (
   Option.bind (r02_has s (i : Int) [45, 45, 62]) fun y53 =>
   cond y53 (some ((TToken.mk 15 [] 0 [] false), w64 ((i : Int) + 3))) (
   Option.bind (r02_has s (i : Int) [60, 33, 45, 45]) fun y62 =>
   cond y62 (some ((TToken.mk 14 [] 0 [] false), w64 ((i : Int) + 4))) (
   Option.bind (cond ((bat s (i : Int)) == 64) (r02_NameAt s (w64 ((i : Int) + 1))) (some default)) fun y71 =>
   cond (cond ((bat s (i : Int)) == 64) y71 false) (
   Option.bind (r02_Named 300 s (w64 ((i : Int) + 1))) fun y74 =>
   some ((TToken.mk 3 y74.1 0 [] false), y74.2)) (
   Option.bind (r02_NameAt s (i : Int)) fun y83 =>
   cond y83 (Option.bind (r02_word 300 s (i : Int)) fun y86 => some (y86.1, y86.2)) (
   cond ((r02_mark (bat s (i : Int))) != 0) (
   some ((TToken.mk (r02_mark (bat s (i : Int))) [] 0 [] false), w64 ((i : Int) + 1))) (
   chk (0 ≤ (i : Int) ∧ (i : Int) ≤ (w64 ((i : Int) + 1)) ∧ (w64 ((i : Int) + 1)) ≤ ln s) <|
   some ((TToken.mk 9 (sub s (i : Int) (w64 ((i : Int) + 1))) 0 [] false), w64 ((i : Int) + 1)))))))) := by
 have hi := drop_len hd
 have hb := get_at hd
 unfold r02_One
 have e34 : ((bat s (i : Int)) == 34) = false := by rw [hb]; exact beq_eq_false_iff_ne.2 (by unfold isb at k2; have := beq_eq_false_iff_ne.1 k2; omega)
 have e39 : ((bat s (i : Int)) == 39) = false := by rw [hb]; exact beq_eq_false_iff_ne.2 (by unfold isb at k3; have := beq_eq_false_iff_ne.1 k3; omega)
 have e35 : ((bat s (i : Int)) == 35) = false := by rw [hb]; exact beq_eq_false_iff_ne.2 (by unfold isb at k4; have := beq_eq_false_iff_ne.1 k4; omega)
 have es : r02_Space (bat s (i : Int)) = false := by rw [hb]; exact k1
 rw [chk_ix hi, es, cond_false, e34, e39, e35, cond_false, lt_eq, cond_false, chk_pos (fun _ h => by cases h), cond_false, Option.bind_some, cond_false, lt_eq, cond_false]
theorem one_num (s N R : Str) (n : Int) (wh : Bool) (h : NumT N n wh) (hs : s.length ≤ 250) (i : Nat) (hi : i ≤ s.length) (hd : s.drop i = N ++ R) (hR : stopB R = true) (k : nam s (i + N.length) = false) (k2 : tst (isb 37) s (i + N.length) = false) :
  r02_One 300 s (i : Int) = some (TToken.mk 10 [] n [] wh, ((i + N.length : Nat) : Int)) := by
 obtain ⟨a1, a2, a3⟩ := numeric_at N R n wh h s hs i hi hd hR
 have hlen := drop_le hi hd
 obtain ⟨c, r, hc, hcb⟩ := h.head
 have hd' : s.drop i = c :: (r ++ R) := by rw [hd, hc]; rfl
 have hq : spc1 c = false ∧ isb 34 c = false ∧ isb 39 c = false ∧ isb 35 c = false := by
  have key : ∀ n : Nat, (n == 45 || (decide (48 ≤ n) && decide (n ≤ 57))) = true → r02_Space (n : Int) = false ∧ (n == 34) = false ∧ (n == 39) = false ∧ (n == 35) = false := by
   intro n hn
   have hn' : n = 45 ∨ (48 ≤ n ∧ n ≤ 57) := by simpa using hn
   refine ⟨?_, beq_eq_false_iff_ne.2 (by omega), beq_eq_false_iff_ne.2 (by omega), beq_eq_false_iff_ne.2 (by omega)⟩
   unfold r02_Space
   rw [show ((n : Int) == 10) = false from beq_eq_false_iff_ne.2 (by omega), show ((n : Int) == 9) = false from beq_eq_false_iff_ne.2 (by omega), show ((n : Int) == 32) = false from beq_eq_false_iff_ne.2 (by omega)]
   rfl
  refine key c.toNat ?_
  rcases hcb with h1 | h1
  ·have h2 : (c.toNat == 45) = true := h1
   rw [h2]; rfl
  ·unfold isd at h1
   rw [h1]; simp
 rw [one_ahead s hs i c _ hd' hq.1 hq.2.1 hq.2.2.1 hq.2.2.2, a1, Option.bind_some, cond_true]
 unfold r02_numeric
 rw [a2, Option.bind_some, chk_pos ⟨by omega, by omega, by unfold ln; omega⟩, a3, h.val, Option.bind_some, nam_r s _ (by omega), k, Option.bind_some, cond_false, at_nat, Option.bind_some, show (37 : Int) = ((37 : Nat) : Int) from rfl, pk_is _ _ _ _ (by omega), k2]
 rfl
theorem one_dim (s N U : Str) (n : Int) (wh : Bool) (h : NumT N n wh) (hs : s.length ≤ 250) (hd : s = N ++ U) (hR : stopB U = true) (hU : ∀ b ∈ U, let1 b = true) (k : nam s N.length = true) :
  r02_One 300 s 0 = some (TToken.mk 12 [] n U wh, ((s.length : Nat) : Int)) := by
 have hd0 : s.drop 0 = N ++ U := hd
 obtain ⟨a1, a2, a3⟩ := numeric_at N U n wh h s hs 0 (Nat.zero_le _) hd0 hR
 rw [Nat.zero_add] at a2 a3
 have hlen := drop_le (Nat.zero_le _) hd0
 rw [Nat.zero_add] at hlen
 obtain ⟨c, r, hc, hcb⟩ := h.head
 have hd' : s.drop 0 = c :: (r ++ U) := by rw [hd0, hc]; rfl
 have hq : spc1 c = false ∧ isb 34 c = false ∧ isb 39 c = false ∧ isb 35 c = false := by
  have key : ∀ n : Nat, (n == 45 || (decide (48 ≤ n) && decide (n ≤ 57))) = true → r02_Space (n : Int) = false ∧ (n == 34) = false ∧ (n == 39) = false ∧ (n == 35) = false := by
   intro n hn
   have hn' : n = 45 ∨ (48 ≤ n ∧ n ≤ 57) := by simpa using hn
   refine ⟨?_, beq_eq_false_iff_ne.2 (by omega), beq_eq_false_iff_ne.2 (by omega), beq_eq_false_iff_ne.2 (by omega)⟩
   unfold r02_Space
   rw [show ((n : Int) == 10) = false from beq_eq_false_iff_ne.2 (by omega), show ((n : Int) == 9) = false from beq_eq_false_iff_ne.2 (by omega), show ((n : Int) == 32) = false from beq_eq_false_iff_ne.2 (by omega)]
   rfl
  refine key c.toNat ?_
  rcases hcb with h1 | h1
  ·have h2 : (c.toNat == 45) = true := h1
   rw [h2]; rfl
  ·unfold isd at h1
   rw [h1]; simp
 have h1 := one_ahead s hs 0 c _ hd' hq.1 hq.2.1 hq.2.2.1 hq.2.2.2
 rw [a1, Option.bind_some, cond_true] at h1
 have hdN : s.drop N.length = U ++ [] := by rw [List.append_nil, hd, List.drop_left]
 have hend : s.drop (N.length + U.length) = [] := drop_ap hdN
 have hnm := named_run s U [] hs N.length (by omega) hdN hU (tst_nil hend) (esc_no (tst_nil hend))
 have h2 : r02_numeric 300 s ((0 : Nat) : Int) = some (TToken.mk 12 [] n U wh, ((s.length : Nat) : Int)) := by
  unfold r02_numeric
  rw [a2, Option.bind_some, chk_pos ⟨by omega, by omega, by unfold ln; omega⟩, a3, h.val, Option.bind_some, nam_r s _ (by omega), k, Option.bind_some, cond_true, hnm, Option.bind_some]
  show some (TToken.mk 12 [] n U wh, ((N.length + U.length : Nat) : Int)) = _
  rw [show N.length + U.length = s.length from by rw [← hlen]]
 rw [h2] at h1
 exact h1
inductive Tk (s : Str) : Nat → List TToken → Prop
 | nil : Tk s s.length []
 | cons (i j : Nat) (t : TToken) (r : List TToken) (hi : i < s.length) (ho : r02_One 300 s (i : Int) = some (t, (j : Int))) (hj : i < j) (hl : j ≤ s.length) (hp : tst (isb 47) s j = false) (hr : Tk s j r) : Tk s i (t :: r)
theorem tk_cut {s : Str} (hs : s.length ≤ 250) {i : Nat} {ts : List TToken} (h : Tk s i ts) : ∀ (kk : Nat) (v : List TToken) (sp : List TA2_int), s.length - i < kk → v.length ≤ i → sp.length ≤ i → ∃ sp', r02_Cut_L1 300 s kk v sp (i : Int) = some (v ++ ts, sp') := by
 induction h with
 | nil =>
  intro kk v sp hk _ _
  obtain ⟨kk, rfl⟩ : ∃ q, kk = q + 1 := ⟨kk - 1, by omega⟩
  rw [r02_Cut_L1, ge_dec (Nat.le_refl _), cond_false, List.append_nil]
  exact ⟨sp, rfl⟩
 | cons i j t r hi ho hj hl hp _ ih =>
  intro kk v sp hk hv hsp
  obtain ⟨kk, rfl⟩ : ∃ q, kk = q + 1 := ⟨kk - 1, by omega⟩
  rw [r02_Cut_L1, lt_dec hi, cond_true, ho, Option.bind_some, chk_pos (by unfold ln; simp only [List.length_cons, List.length_nil]; omega), lt_eq, chk_pos (by unfold ln; simp only [List.length_cons, List.length_nil]; omega), lt_eq, past_id s (by omega) j hl hp, Option.bind_some]
  obtain ⟨sp', h⟩ := ih kk (v ++ [t]) (sp ++ [TA2_int.mk (i : Int) (j : Int)]) (by omega) (by simp only [List.length_append, List.length_cons, List.length_nil]; omega) (by simp only [List.length_append, List.length_cons, List.length_nil]; omega)
  refine ⟨sp', h.trans ?_⟩
  rw [List.append_assoc]
  rfl
theorem tokens_of (s : Str) (hs : s.length ≤ 250) (hc : ∀ b ∈ s, clB b = true) (h0 : tst (isb 47) s 0 = false) (ts : List TToken) (h : Tk s 0 ts) (hl : ts.length ≤ 1000) : r02_Tokens 300 s = some (ts, 0) := by
 unfold r02_Tokens r02_Cut
 have hp : r02_Past 300 s 0 = some 0 := past_id s (by omega) 0 (Nat.zero_le _) h0
 obtain ⟨sp, h1⟩ := tk_cut hs h 300 [] [] (by omega) (Nat.zero_le _) (Nat.zero_le _)
 have h2 : r02_Cut_L1 300 s 300 [] [] 0 = some ([] ++ ts, sp) := h1
 rw [clean_id s hs hc, Option.bind_some]
 show (Option.bind (Option.bind (Option.bind (r02_Past 300 s 0) _) _) _) = _
 rw [hp, Option.bind_some, h2, Option.bind_some, Option.bind_some, decide_eq_false (by unfold ln; simp only [List.nil_append]; omega), cond_false]
 rfl
theorem of_one (s : Str) (hs : s.length ≤ 250) (hc : ∀ b ∈ s, clB b = true) (h0 : tst (isb 47) s 0 = false) (hp : 0 < s.length) (t : TToken) (ho : r02_One 300 s 0 = some (t, ((s.length : Nat) : Int))) (hk : r04_Closer t.Kind = 0) : r04_Of 300 s = some [TValue.mk t []] := by
 unfold r04_Of
 have htk : Tk s 0 [t] := Tk.cons 0 s.length t [] hp ho hp (Nat.le_refl _) (tst_nil (List.drop_length ..)) Tk.nil
 rw [tokens_of s hs hc h0 [t] htk (show 1 ≤ 1000 from by decide), Option.bind_some]
 have h : r04_Parse 300 [t] = some ([TValue.mk t []], 0) := by
  have e1 : ∀ k, r04_values_L1 300 [t] 0 16 (r04_values_r 300 299) (k + 1) 0 [] = r04_values_L1 300 [t] 0 16 (r04_values_r 300 299) k 1 [TValue.mk t []] := by
   intro k
   rw [r04_values_L1, lt_eq]
   show chk _ (cond (cond true true false) (chk _ (Option.bind (cond (r04_Closer t.Kind != 0) _ _) _)) _) = _
   rw [hk, chk_pos (fun h => by cases h)]
   show chk _ _ = _
   rw [chk_pos (show 0 ≤ (0 : Int) ∧ (0 : Int) < ln [t] from ⟨Int.le_refl _, (by unfold ln; simp)⟩)]
   rfl
  have e2 : ∀ k, r04_values_L1 300 [t] 0 16 (r04_values_r 300 299) (k + 1) 1 [TValue.mk t []] = some (.inr (1, [TValue.mk t []])) := fun k => by
   rw [r04_values_L1, lt_eq]; rfl
  have e3 : r04_Parsed 300 [t] = some ([TValue.mk t []], true) := by
   unfold r04_Parsed r04_values
   rw [show r04_values_r 300 300 [t] 0 0 16 = Option.bind (r04_values_L1 300 [t] 0 16 (r04_values_r 300 299) 300 0 []) fun z5 => sumK z5 fun s_z5 => lt (if w64 (s_z5.1 + 1) < ln [t] then w64 (s_z5.1 + 1) else ln [t]) fun x76 => some (s_z5.2, x76) from rfl, (e1 299).trans (e2 298)]
   rfl
  have e4 : r04_Tokens 300 [TValue.mk t []] = some [t] := by
   unfold r04_Tokens
   rw [show r04_Tokens_r 300 300 [TValue.mk t []] = Option.bind (r04_Tokens_L1 300 [TValue.mk t []] (r04_Tokens_r 300 299) 300 [] 0) fun z5 => some z5 from rfl]
   have f1 : ∀ k, r04_Tokens_L1 300 [TValue.mk t []] (r04_Tokens_r 300 299) (k + 1) [] 0 = r04_Tokens_L1 300 [TValue.mk t []] (r04_Tokens_r 300 299) k [t] 1 := by
    intro k
    rw [r04_Tokens_L1]
    show Option.bind (chk _ (chk _ (lt _ fun q23 => lt (r04_Closer t.Kind != 0) _))) _ = _
    rw [hk]
    rfl
   have f2 : ∀ k, r04_Tokens_L1 300 [TValue.mk t []] (r04_Tokens_r 300 299) (k + 1) [t] 1 = some [t] := fun k => by rw [r04_Tokens_L1]; rfl
   rw [(f1 299).trans (f2 298)]
   rfl
  unfold r04_Parse
  rw [e3, Option.bind_some]
  show Option.bind (r04_Tokens 300 [TValue.mk t []]) _ = _
  rw [e4]
  rfl
 show Option.bind (r04_Parse 300 [t]) _ = _
 rw [h]
 rfl
end Go.Proofs.YtemchjneoalnoaaGreatDoor

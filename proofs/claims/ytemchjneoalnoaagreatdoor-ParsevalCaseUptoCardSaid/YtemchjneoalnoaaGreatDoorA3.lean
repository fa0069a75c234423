/-
 Numbers in a text, third part: both readers say the same worth.
-/
import Derived.Test.YtemchjneoalnoaaGreatDoorA2
set_option linter.unusedVariables false
namespace Go.Proofs.YtemchjneoalnoaaGreatDoor
open Go Go.V
set_option maxRecDepth 100000
def dA (s : Str) : Str := digS s (skipS s 0)
def yA (s : Str) : Nat := skipS s 0 + (dA s).length
def jx (s : Str) (e : Nat) : Nat := cond (tst isg s (e + 1)) (e + 2) (e + 1)
structure NumD (s : Str) (D2 : Str) (e : Nat) : Prop where
 dot : (tst (isb 46) s (yA s) = true ∧ D2 = digS s (yA s + 1) ∧ e = yA s + 1 + D2.length ∧ D2 ≠ []) ∨ (tst (isb 46) s (yA s) = false ∧ D2 = [] ∧ e = yA s)
 ex : (tst iee s e = true ∧ (∀ b ∈ s.drop (jx s e), isd b = true) ∧ jx s e < s.length) ∨ (tst iee s e = false ∧ e = s.length)
 nn : dA s ++ D2 ≠ []
 le : e ≤ s.length
theorem tst_at {p : UInt8 → Bool} {s : Str} {i : Nat} (hi : i < s.length) : tst p s i = p s[i] := by
 unfold tst
 rw [List.getElem?_eq_getElem hi]
def expo (s : Str) (e cap : Nat) : Int := cond (tst iee s e) (cond (tst (isb 45) s (e + 1)) (-((capf cap (s.drop (jx s e)) 0 : Nat) : Int)) ((capf cap (s.drop (jx s e)) 0 : Nat) : Int)) 0
def worth (s D : Str) (c : Int) : Int := cond (tst (isb 45) s 0) (-((mulT c (capf 1000000000000 (D.take ((D.length : Int) + c).toNat) 0) : Nat) : Int)) ((mulT c (capf 1000000000000 (D.take ((D.length : Int) + c).toNat) 0) : Nat) : Int)
theorem bat_is {s : Str} {i : Nat} (h : i < s.length) (c : Nat) (hc : c ≠ 0) : (bat s (i : Int) == (c : Int)) = tst (isb c) s i := by
 rw [bat_pk s i 0 h, pk_is _ _ _ _ (by omega)]
theorem mulT_le (c : Int) (v : Nat) (h : v ≤ 1000000000000) : mulT c v ≤ 1000000000000 := by
 unfold mulT
 split
 ·exact h
 ·exact Nat.min_le_left _ _
theorem alldig {s D2 : Str} {e : Nat} (h : NumD s D2 e) : ∀ b ∈ dA s ++ D2, isd b = true := by
 intro b hb
 rcases List.mem_append.1 hb with hb | hb
 ·exact dig_all s _ b hb
 ·rcases h.dot with ⟨_, h2, _⟩ | ⟨_, h2, _⟩
  ·rw [h2] at hb; exact dig_all s _ b hb
  ·rw [h2] at hb; cases hb
theorem len_le {s D2 : Str} {e : Nat} (h : NumD s D2 e) : (dA s ++ D2).length ≤ e := by
 rw [List.length_append]
 rcases h.dot with ⟨_, _, h3, _⟩ | ⟨_, h2, h3⟩
 ·unfold yA at h3; omega
 ·unfold yA at h3; rw [h2]; simp; omega
theorem last_r (m : Nat) (s D : Str) (c : Int) (e : Int) (hm : 14 < m) (hD : D.length < m) (hd : ∀ b ∈ D, isd b = true) (hl : D.length < 1000000) (hc : -9000000 < c ∧ c < 9000000) (hs : 0 < s.length) (z2 : Int × Int) :
  (Option.bind (r02_Thousandths_L4 m (D, z2) c m 0 0) fun z88 => Option.bind (r02_Thousandths_L5 m m c z88) fun z104 => cond ((bat s 0) == 45) (some (w64 (0 - z104))) (some z104)) = some (worth s D c) := by
 have h4 := capR4 m (D, z2) c hd hl hc m 0 0 (by simp; omega) (by omega)
 simp only [Int.natCast_zero, List.drop_zero] at h4
 rw [h4]
 simp only [Option.bind_some]
 have hv := capf_le 1000000000000 (D.take ((D.length : Int) + c).toNat) 0 (by omega)
 rw [mulL_t m m c _ (by omega) (by omega) hv (by omega) ?_]
 ·simp only [Option.bind_some]
  have hb : (bat s 0 == 45) = tst (isb 45) s 0 := bat_is hs 45 (by omega)
  rw [hb]
  unfold worth
  have := mulT_le c _ hv
  cases tst (isb 45) s 0
  ·rfl
  ·simp only [cond_true]
   rw [w64_id (by omega) (by omega), Int.zero_sub]
 ·by_cases h0 : capf 1000000000000 (D.take ((D.length : Int) + c).toNat) 0 = 0
  ·exact Or.inl h0
  ·right
   have h1 : (10 : Nat) ^ 12 ≤ 10 ^ (m - 1) := Nat.pow_le_pow_right (by decide) (by omega)
   have h2 : (10 : Nat) ^ 12 = 1000000000000 := by decide
   have h3 : 10 ^ (m - 1) ≤ capf 1000000000000 (D.take ((D.length : Int) + c).toNat) 0 * 10 ^ (m - 1) := Nat.le_mul_of_pos_left _ (by omega)
   omega
theorem expo_le (s : Str) (e cap : Nat) : -(cap : Int) ≤ expo s e cap ∧ expo s e cap ≤ cap := by
 unfold expo
 have := capf_le cap (s.drop (jx s e)) 0 (Nat.zero_le _)
 cases tst iee s e <;> cases tst (isb 45) s (e + 1) <;> simp only [cond_true, cond_false] <;> omega
theorem thou_r (m : Nat) (s D2 : Str) (e : Nat) (h : NumD s D2 e) (hs : s.length < 100000) (hm : s.length + 20 < m) :
  r02_Thousandths m s = some (worth s (dA s ++ D2) (3 - D2.length + expo s e 10000)) := by
 have hln := len_le h
 have hle := h.le
 have hD2 : D2.length ≤ s.length := by have hq := hln; rw [List.length_append] at hq; omega
 have h0 : 0 < s.length := by
  have : 0 < (dA s ++ D2).length := List.length_pos_iff.2 h.nn
  omega
 have hi1 := skip_le s 0 (Nat.zero_le _)
 have hy2 := dig_le s _ hi1
 unfold r02_Thousandths
 rw [chk_pos (by unfold ln; omega)]
 have e0 : (lt (cond ((bat s 0) == 43) true ((bat s 0) == 45)) fun x9 => cond x9 (some (1 : Int)) (some 0)) = some ((skipS s 0 : Nat) : Int) := by
  rw [lt_eq, show bat s 0 = pk s 0 0 from bat_pk s 0 0 h0, sgn_p s 0 0 (by omega)]
  unfold skipS
  cases tst isg s 0 <;> rfl
 rw [e0]
 simp only [Option.bind_some]
 rw [takR1 m s (by omega) m (skipS s 0) [] (by omega) hi1 (by simp)]
 simp only [Option.bind_some, List.nil_append]
 rw [show skipS s 0 + (digS s (skipS s 0)).length = yA s from rfl, show digS s (skipS s 0) = dA s from rfl]
 rw [show skipS s 0 + (digS s (skipS s 0)).length = yA s from rfl] at hy2
 have e2 : (Option.bind (r02_At s ((yA s : Nat) : Int)) fun y28 => cond (y28 == 46) (r02_Thousandths_L2 m s m (dA s) 3 (w64 (((yA s : Nat) : Int) + 1))) (some (dA s, 3, ((yA s : Nat) : Int)))) = some (dA s ++ D2, 3 - (D2.length : Int), (e : Int)) := by
  rw [at_nat]
  simp only [Option.bind_some]
  rw [show (46 : Int) = ((46 : Nat) : Int) from rfl, pk_is _ _ _ _ (by omega)]
  rcases h.dot with ⟨d1, d2, d3, _⟩ | ⟨d1, d2, d3⟩
  ·have hl := tst_lt d1
   rw [d1]
   simp only [cond_true]
   rw [w64_ix (by omega), takR2 m s (by omega) m (yA s + 1) (dA s) 3 (by omega) (by omega) (by unfold yA; omega) (by omega) (by omega), ← d2, ← d3]
  ·rw [d1, d2, d3]
   simp
 rw [e2]
 simp only [Option.bind_some]
 have e3 : (Option.bind (cond (decide ((e : Int) < (ln s))) (
   chk (0 ≤ (w64 ((e : Int) + 1)) ∧ (w64 ((e : Int) + 1)) < ln s) <|
   Option.bind (lt (cond ((bat s (w64 ((e : Int) + 1))) == 43) true ((bat s (w64 ((e : Int) + 1))) == 45)) fun x57 => cond x57 (some (w64 ((w64 ((e : Int) + 1)) + 1))) (some (w64 ((e : Int) + 1)))) fun (z56 : Int) =>
   Option.bind (r02_Thousandths_L3 m s m z56 0) fun (z64 : Int) =>
   Option.bind (cond ((bat s (w64 ((e : Int) + 1))) == 45) (some (w64 (0 - z64))) (some z64)) fun (z76 : Int) =>
   some (w64 ((3 - (D2.length : Int)) + z76))) (some (3 - (D2.length : Int)))) fun z => some z) = some (3 - (D2.length : Int) + expo s e 10000) := by
  have hx := expo_le s e 10000
  rcases h.ex with ⟨x1, x2, x3⟩ | ⟨x1, x2⟩
  ·have hl := tst_lt x1
   have hj : e + 1 < s.length := by
    unfold jx at x3
    cases hg : tst isg s (e + 1) with
    | true => exact tst_lt hg
    | false => rw [hg] at x3; exact x3
   rw [lt_dec hl, w64_ix (by omega), chk_ix hj]
   simp only [cond_true]
   have e4 : (lt (cond ((bat s ((e + 1 : Nat) : Int)) == 43) true ((bat s ((e + 1 : Nat) : Int)) == 45)) fun x57 => cond x57 (some (w64 (((e + 1 : Nat) : Int) + 1))) (some ((e + 1 : Nat) : Int))) = some ((jx s e : Nat) : Int) := by
    rw [lt_eq, bat_pk s (e + 1) 0 hj, sgn_p s (e + 1) 0 (by omega)]
    unfold jx
    cases hg : tst isg s (e + 1)
    ·rfl
    ·simp only [cond_true]; rw [w64_ix (by omega)]
   rw [e4]
   simp only [Option.bind_some]
   have h3 := capR3 m s (by omega) m (jx s e) 0 x2 (by omega) (by omega) (by omega)
   simp only [Int.natCast_zero] at h3
   rw [h3]
   simp only [Option.bind_some]
   rw [show (45 : Int) = ((45 : Nat) : Int) from rfl, bat_is hj 45 (by omega)]
   have hcl := capf_le 10000 (s.drop (jx s e)) 0 (by omega)
   unfold expo at hx ⊢
   rw [x1] at hx ⊢
   cases hq : tst (isb 45) s (e + 1)
   ·rw [hq] at hx
    simp only [cond_true, cond_false, Option.bind_some] at hx ⊢
    rw [w64_id (by omega) (by omega)]
   ·rw [hq] at hx
    simp only [cond_true, Option.bind_some] at hx ⊢
    rw [w64_id (x := 0 - ((capf 10000 (s.drop (jx s e)) 0 : Nat) : Int)) (by omega) (by omega), w64_id (by omega) (by omega), Int.zero_sub]
  ·rw [x2, ge_dec (Nat.le_refl _)]
   unfold expo
   rw [← x2, x1]
   simp
 simp only [Option.bind_fun_some] at e3
 rw [e3]
 simp only [Option.bind_some]
 have hx := expo_le s e 10000
 exact last_r m s (dA s ++ D2) _ (e : Int) (by omega) (by omega) (alldig h) (by omega) (by omega) h0 (3 - (D2.length : Int), (e : Int))
theorem isg_dig {b : UInt8} (h : isd b = true) : isg b = false ∧ isb 46 b = false ∧ iee b = false ∧ b.toNat < 128 := by
 unfold isd at h
 rw [Bool.and_eq_true] at h
 have h1 := of_decide_eq_true h.1
 have h2 := of_decide_eq_true h.2
 unfold isg iee isb
 refine ⟨?_, beq_eq_false_iff_ne.2 (by omega), ?_, by omega⟩
 ·rw [beq_eq_false_iff_ne.2 (show b.toNat ≠ 43 by omega), beq_eq_false_iff_ne.2 (show b.toNat ≠ 45 by omega)]; rfl
 ·rw [beq_eq_false_iff_ne.2 (show b.toNat ≠ 101 by omega), beq_eq_false_iff_ne.2 (show b.toNat ≠ 69 by omega)]; rfl
end Go.Proofs.YtemchjneoalnoaaGreatDoor

/-
  Numbers in a text, third part: both readers say the same worth.
-/
import Derived.Test.YtfancfogkhclfaaGreatDoorPN2
set_option linter.unusedVariables false
namespace Go.Proofs.YtfancfogkhclfaaGreatDoor
open Go Go.V
set_option maxRecDepth 100000
def dA (s : Str) : Str := digS s (skipS s 0)
def yA (s : Str) : Nat := skipS s 0 + (dA s).length
def jx (s : Str) (e : Nat) : Nat := cond (tst isg s (e + 1)) (e + 2) (e + 1)
structure NumD (s : Str) (D2 : Str) (e : Nat) : Prop where
  dot : (tst (isb 46) s (yA s) = true ∧ D2 = digS s (yA s + 1) ∧ e = yA s + 1 + D2.length ∧ D2 ≠ []) ∨ (tst (isb 46) s (yA s) = false ∧ D2 = [] ∧ e = yA s)
  ex : (tst iee s e = true ∧ (∀ b ∈ s.drop (jx s e), isd b = true) ∧ jx s e < s.length) ∨ (tst iee s e = false ∧ e = s.length)
  nn : dA s ++ D2 ≠ []
  le : e ≤ s.length
theorem tst_some {p : UInt8 → Bool} {s : Str} {i : Nat} (h : tst p s i = true) : ∃ hi : i < s.length, p s[i] = true := by
  have hi := tst_lt h
  refine ⟨hi, ?_⟩
  unfold tst at h
  rw [List.getElem?_eq_getElem hi] at h
  exact h
theorem tst_at {p : UInt8 → Bool} {s : Str} {i : Nat} (hi : i < s.length) : tst p s i = p s[i] := by
  unfold tst
  rw [List.getElem?_eq_getElem hi]
theorem dig_ne {s : Str} {i : Nat} (h : tst isd s i = true) : digS s i ≠ [] := by
  obtain ⟨_, h2⟩ := dig_t h
  rw [h2]
  exact List.cons_ne_nil _ _
theorem dec (s : Str) (hn : numAt s 0 = true) (he : (numEnd s).1 = s.length) : ∃ D2 e, NumD s D2 e := by
  have hy := endM_eq s (yA s) rfl
  have hle := endM_le s
  have hy2 := dig_le s _ (skip_le s 0 (Nat.zero_le _))
  unfold numAt at hn
  dsimp only at hn
  -- the exponent
  have hex : ∀ e wh, endM s = (e, wh) → (tst iee s e = true ∧ (∀ b ∈ s.drop (jx s e), isd b = true) ∧ jx s e < s.length) ∨ (tst iee s e = false ∧ e = s.length) := by
    intro e wh hM
    unfold numEnd at he
    rw [hM] at he
    unfold endE at he
    cases ht : tst iee s e with
    | false =>
      rw [ht] at he
      exact Or.inr ⟨rfl, he⟩
    | true =>
      rw [ht] at he
      have hl := tst_lt ht
      simp only [cond_true] at he
      cases hd : tst isd s (cond (tst isg s (e + 1)) (e + 2) (e + 1)) with
      | false => rw [hd] at he; simp only [cond_false] at he; omega
      | true =>
        rw [hd] at he
        simp only [cond_true] at he
        refine Or.inl ⟨rfl, fun b hb => ?_, tst_lt hd⟩
        have h1 : s.drop (jx s e) = digS s (jx s e) := by
          rw [dig_sub s (jx s e), List.take_of_length_le]
          rw [List.length_drop]
          unfold jx
          omega
        rw [h1] at hb
        exact dig_all s _ b hb
  cases hdot : tst (isb 46) s (yA s) with
  | false =>
    rw [hdot] at hy
    simp only [cond_false] at hy
    refine ⟨[], yA s, ⟨Or.inr ⟨hdot, rfl, rfl⟩, hex _ _ hy, ?_, hy2⟩⟩
    rw [List.append_nil]
    have h1 : tst (isb 46) s (skipS s 0) = false := by
      cases hq : tst (isb 46) s (skipS s 0) with
      | false => rfl
      | true =>
        have hnd : tst isd s (skipS s 0) = false := by
          obtain ⟨hi, h2⟩ := tst_some hq
          rw [tst_at hi]
          unfold isb at h2
          unfold isd
          have : s[skipS s 0].toNat = 46 := by simpa using h2
          rw [this]
          rfl
        have : yA s = skipS s 0 := by unfold yA dA; rw [dig_f hnd]; rfl
        rw [this, hq] at hdot
        cases hdot
    rw [h1] at hn
    exact dig_ne hn
  | true =>
    have hl := tst_lt hdot
    have hne : tst iee s (yA s) = false := by
      obtain ⟨hi, h2⟩ := tst_some hdot
      rw [tst_at hi]
      unfold isb at h2
      have : s[yA s].toNat = 46 := by simpa using h2
      unfold iee isb
      rw [this]
      rfl
    cases hd : tst isd s (yA s + 1) with
    | false =>
      rw [hdot, hd] at hy
      rcases hex _ _ hy with ⟨h1, _⟩ | ⟨_, h2⟩
      · rw [hne] at h1; cases h1
      · omega
    | true =>
      rw [hdot, hd] at hy
      have hq := dig_ne hd
      refine ⟨digS s (yA s + 1), yA s + 1 + (digS s (yA s + 1)).length, ⟨Or.inl ⟨hdot, rfl, rfl, hq⟩, hex _ _ hy, fun h => hq (List.append_eq_nil_iff.1 h).2, dig_le s _ hl⟩⟩
def expo (s : Str) (e cap : Nat) : Int := cond (tst iee s e) (cond (tst (isb 45) s (e + 1)) (-((capf cap (s.drop (jx s e)) 0 : Nat) : Int)) ((capf cap (s.drop (jx s e)) 0 : Nat) : Int)) 0
def worth (s D : Str) (c : Int) : Int := cond (tst (isb 45) s 0) (-((mulT c (capf 1000000000000 (D.take ((D.length : Int) + c).toNat) 0) : Nat) : Int)) ((mulT c (capf 1000000000000 (D.take ((D.length : Int) + c).toNat) 0) : Nat) : Int)
theorem bat_is {s : Str} {i : Nat} (h : i < s.length) (c : Nat) (hc : c ≠ 0) : (bat s (i : Int) == (c : Int)) = tst (isb c) s i := by
  rw [bat_pk s i 0 h, pk_is _ _ _ _ (by omega)]
theorem mulT_le (c : Int) (v : Nat) (h : v ≤ 1000000000000) : mulT c v ≤ 1000000000000 := by
  unfold mulT
  split
  · exact h
  · exact Nat.min_le_left _ _
theorem alldig {s D2 : Str} {e : Nat} (h : NumD s D2 e) : ∀ b ∈ dA s ++ D2, isd b = true := by
  intro b hb
  rcases List.mem_append.1 hb with hb | hb
  · exact dig_all s _ b hb
  · rcases h.dot with ⟨_, h2, _⟩ | ⟨_, h2, _⟩
    · rw [h2] at hb; exact dig_all s _ b hb
    · rw [h2] at hb; cases hb
theorem len_le {s D2 : Str} {e : Nat} (h : NumD s D2 e) : (dA s ++ D2).length ≤ e := by
  rw [List.length_append]
  rcases h.dot with ⟨_, _, h3, _⟩ | ⟨_, h2, h3⟩
  · unfold yA at h3; omega
  · unfold yA at h3; rw [h2]; simp; omega
/-- The last steps: the digits' worth, held, moved, signed. -/
theorem last_r (m : Nat) (s D : Str) (c : Int) (e : Int) (hm : 14 < m) (hD : D.length < m) (hd : ∀ b ∈ D, isd b = true) (hl : D.length < 1000000) (hc : -9000000 < c ∧ c < 9000000) (hs : 0 < s.length) (z2 : Int × Int) :
    (Option.bind (r02_Thousandths_L4 m (D, z2) c m 0 0) fun z88 => Option.bind (r02_Thousandths_L5 m m c z88) fun z104 => cond ((bat s 0) == 45) (some (w64 (0 - z104))) (some z104)) = some (worth s D c) := by
  have h4 := capR4 m (D, z2) c hd hl hc m 0 0 (by simp; omega) (by omega)
  simp only [Int.natCast_zero, List.drop_zero] at h4
  rw [h4]
  simp only [Option.bind_some]
  have hv := capf_le 1000000000000 (D.take ((D.length : Int) + c).toNat) 0 (by omega)
  rw [mulL_r, mulL_t m m c _ (by omega) (by omega) hv (by omega) ?_]
  · simp only [Option.bind_some]
    have hb : (bat s 0 == 45) = tst (isb 45) s 0 := bat_is hs 45 (by omega)
    rw [hb]
    unfold worth
    have := mulT_le c _ hv
    cases tst (isb 45) s 0
    · rfl
    · simp only [cond_true]
      rw [w64_id (by omega) (by omega), Int.zero_sub]
  · by_cases h0 : capf 1000000000000 (D.take ((D.length : Int) + c).toNat) 0 = 0
    · exact Or.inl h0
    · right
      have h1 : (10 : Nat) ^ 12 ≤ 10 ^ (m - 1) := Nat.pow_le_pow_right (by decide) (by omega)
      have h2 : (10 : Nat) ^ 12 = 1000000000000 := by decide
      have h3 : 10 ^ (m - 1) ≤ capf 1000000000000 (D.take ((D.length : Int) + c).toNat) 0 * 10 ^ (m - 1) := Nat.le_mul_of_pos_left _ (by omega)
      omega
theorem expo_le (s : Str) (e cap : Nat) : -(cap : Int) ≤ expo s e cap ∧ expo s e cap ≤ cap := by
  unfold expo
  have := capf_le cap (s.drop (jx s e)) 0 (Nat.zero_le _)
  cases tst iee s e <;> cases tst (isb 45) s (e + 1) <;> simp only [cond_true, cond_false] <;> omega
theorem thou_r (m : Nat) (s D2 : Str) (e : Nat) (h : NumD s D2 e) (hs : s.length < 100000) (hm : s.length + 20 < m) :
    r02_Thousandths m s = some (worth s (dA s ++ D2) (3 - D2.length + expo s e 10000)) := by
  have hln := len_le h
  have hle := h.le
  have hD2 : D2.length ≤ s.length := by have hq := hln; rw [List.length_append] at hq; omega
  have h0 : 0 < s.length := by
    have : 0 < (dA s ++ D2).length := List.length_pos_iff.2 h.nn
    omega
  have hi1 := skip_le s 0 (Nat.zero_le _)
  have hy2 := dig_le s _ hi1
  unfold r02_Thousandths
  rw [chk_pos (by unfold ln; omega)]
  have e0 : (lt (cond ((bat s 0) == 43) true ((bat s 0) == 45)) fun x9 => cond x9 (some (1 : Int)) (some 0)) = some ((skipS s 0 : Nat) : Int) := by
    rw [lt_eq, show bat s 0 = pk s 0 0 from bat_pk s 0 0 h0, sgn_p s 0 0 (by omega)]
    unfold skipS
    cases tst isg s 0 <;> rfl
  rw [e0]
  simp only [Option.bind_some]
  rw [takR1 m s (by omega) m (skipS s 0) [] (by omega) hi1 (by simp)]
  simp only [Option.bind_some, List.nil_append]
  rw [show skipS s 0 + (digS s (skipS s 0)).length = yA s from rfl, show digS s (skipS s 0) = dA s from rfl]
  rw [show skipS s 0 + (digS s (skipS s 0)).length = yA s from rfl] at hy2
  have e2 : (Option.bind (r02_At s ((yA s : Nat) : Int)) fun y28 => cond (y28 == 46) (r02_Thousandths_L2 m s m (dA s) 3 (w64 (((yA s : Nat) : Int) + 1))) (some (dA s, 3, ((yA s : Nat) : Int)))) = some (dA s ++ D2, 3 - (D2.length : Int), (e : Int)) := by
    rw [at_nat]
    simp only [Option.bind_some]
    rw [show (46 : Int) = ((46 : Nat) : Int) from rfl, pk_is _ _ _ _ (by omega)]
    rcases h.dot with ⟨d1, d2, d3, _⟩ | ⟨d1, d2, d3⟩
    · have hl := tst_lt d1
      rw [d1]
      simp only [cond_true]
      rw [w64_ix (by omega), takR2 m s (by omega) m (yA s + 1) (dA s) 3 (by omega) (by omega) (by unfold yA; omega) (by omega) (by omega), ← d2, ← d3]
    · rw [d1, d2, d3]
      simp
  rw [e2]
  simp only [Option.bind_some]
  have e3 : (Option.bind (cond (decide ((e : Int) < (ln s))) (
      chk (0 ≤ (w64 ((e : Int) + 1)) ∧ (w64 ((e : Int) + 1)) < ln s) <|
      Option.bind (lt (cond ((bat s (w64 ((e : Int) + 1))) == 43) true ((bat s (w64 ((e : Int) + 1))) == 45)) fun x57 => cond x57 (some (w64 ((w64 ((e : Int) + 1)) + 1))) (some (w64 ((e : Int) + 1)))) fun (z56 : Int) =>
      Option.bind (r02_Thousandths_L3 m s m z56 0) fun (z64 : Int) =>
      Option.bind (cond ((bat s (w64 ((e : Int) + 1))) == 45) (some (w64 (0 - z64))) (some z64)) fun (z76 : Int) =>
      some (w64 ((3 - (D2.length : Int)) + z76))) (some (3 - (D2.length : Int)))) fun z => some z) = some (3 - (D2.length : Int) + expo s e 10000) := by
    have hx := expo_le s e 10000
    rcases h.ex with ⟨x1, x2, x3⟩ | ⟨x1, x2⟩
    · have hl := tst_lt x1
      have hj : e + 1 < s.length := by
        unfold jx at x3
        cases hg : tst isg s (e + 1) with
        | true => exact tst_lt hg
        | false => rw [hg] at x3; exact x3
      rw [lt_dec hl, w64_ix (by omega), chk_ix hj]
      simp only [cond_true]
      have e4 : (lt (cond ((bat s ((e + 1 : Nat) : Int)) == 43) true ((bat s ((e + 1 : Nat) : Int)) == 45)) fun x57 => cond x57 (some (w64 (((e + 1 : Nat) : Int) + 1))) (some ((e + 1 : Nat) : Int))) = some ((jx s e : Nat) : Int) := by
        rw [lt_eq, bat_pk s (e + 1) 0 hj, sgn_p s (e + 1) 0 (by omega)]
        unfold jx
        cases hg : tst isg s (e + 1)
        · rfl
        · simp only [cond_true]; rw [w64_ix (by omega)]
      rw [e4]
      simp only [Option.bind_some]
      have h3 := capR3 m s (by omega) m (jx s e) 0 x2 (by omega) (by omega) (by omega)
      simp only [Int.natCast_zero] at h3
      rw [h3]
      simp only [Option.bind_some]
      rw [show (45 : Int) = ((45 : Nat) : Int) from rfl, bat_is hj 45 (by omega)]
      have hcl := capf_le 10000 (s.drop (jx s e)) 0 (by omega)
      unfold expo at hx ⊢
      rw [x1] at hx ⊢
      cases hq : tst (isb 45) s (e + 1)
      · rw [hq] at hx
        simp only [cond_true, cond_false, Option.bind_some] at hx ⊢
        rw [w64_id (by omega) (by omega)]
      · rw [hq] at hx
        simp only [cond_true, Option.bind_some] at hx ⊢
        rw [w64_id (x := 0 - ((capf 10000 (s.drop (jx s e)) 0 : Nat) : Int)) (by omega) (by omega), w64_id (by omega) (by omega), Int.zero_sub]
    · rw [x2, ge_dec (Nat.le_refl _)]
      unfold expo
      rw [← x2, x1]
      simp
  simp only [Option.bind_fun_some] at e3
  rw [e3]
  simp only [Option.bind_some]
  have hx := expo_le s e 10000
  exact last_r m s (dA s ++ D2) _ (e : Int) (by omega) (by omega) (alldig h) (by omega) (by omega) h0 (3 - (D2.length : Int), (e : Int))
/-! ## The other reader -/
theorem eqb (b : UInt8) (c : UInt8) : (b == c) = isb c.toNat b := by
  unfold isb
  by_cases h : b = c
  · subst h; simp
  · rw [beq_eq_false_iff_ne.2 h]
    exact (beq_eq_false_iff_ne.2 fun h1 => h (UInt8.toNat_inj.1 h1)).symm
theorem isg_c (b : UInt8) : ([43, 45] : List UInt8).contains b = isg b := by
  simp only [List.contains_cons, List.contains_nil, Bool.or_false]
  rw [eqb, eqb]
  rfl
theorem iee_c (b : UInt8) : ([101, 69] : List UInt8).contains b = iee b := by
  simp only [List.contains_cons, List.contains_nil, Bool.or_false]
  rw [eqb, eqb]
  rfl
theorem trim_f {s : Str} {i : Nat} (h : tst isg s i = false) : Lib.trimLeftS (s.drop i) [43, 45] = s.drop i := by
  unfold Lib.trimLeftS
  rcases Nat.lt_or_ge i s.length with hi | hi
  · rw [drop_get hi, List.dropWhile_cons, isg_c, ← tst_at (p := isg) hi, h]
    rfl
  · rw [List.drop_eq_nil_of_le hi]
    rfl
theorem trim_t {s : Str} {i : Nat} (h : tst isg s i = true) : Lib.trimLeftS (s.drop i) [43, 45] = Lib.trimLeftS (s.drop (i + 1)) [43, 45] := by
  have hi := tst_lt h
  unfold Lib.trimLeftS
  rw [drop_get hi, List.dropWhile_cons, isg_c, ← tst_at (p := isg) hi, h]
  rfl
theorem isg_dig {b : UInt8} (h : isd b = true) : isg b = false ∧ isb 46 b = false ∧ iee b = false ∧ b.toNat < 128 := by
  unfold isd at h
  rw [Bool.and_eq_true] at h
  have h1 := of_decide_eq_true h.1
  have h2 := of_decide_eq_true h.2
  unfold isg iee isb
  refine ⟨?_, beq_eq_false_iff_ne.2 (by omega), ?_, by omega⟩
  · rw [beq_eq_false_iff_ne.2 (show b.toNat ≠ 43 by omega), beq_eq_false_iff_ne.2 (show b.toNat ≠ 45 by omega)]; rfl
  · rw [beq_eq_false_iff_ne.2 (show b.toNat ≠ 101 by omega), beq_eq_false_iff_ne.2 (show b.toNat ≠ 69 by omega)]; rfl
theorem isg_dot {b : UInt8} (h : isb 46 b = true) : isg b = false ∧ isd b = false ∧ iee b = false ∧ b.toNat < 128 ∧ b = 46 := by
  have h1 : b.toNat = 46 := by unfold isb at h; simpa using h
  have h2 : b = 46 := UInt8.toNat_inj.1 h1
  subst h2
  exact ⟨rfl, rfl, rfl, by decide, rfl⟩
theorem drop_dig (s : Str) (i : Nat) : s.drop i = digS s i ++ s.drop (i + (digS s i).length) := by
  have h := List.takeWhile_append_dropWhile (p := isd) (l := s.drop i)
  rw [← List.drop_drop]
  conv => lhs; rw [← List.take_append_drop (digS s i).length (s.drop i)]
  rw [← dig_sub s i]
theorem nosign {s D2 : Str} {e : Nat} (h : NumD s D2 e) : tst isg s (skipS s 0) = false := by
  cases hd : tst isd s (skipS s 0) with
  | true =>
    obtain ⟨hi, h2⟩ := tst_some hd
    rw [tst_at hi]
    exact (isg_dig h2).1
  | false =>
    have hA : dA s = [] := dig_f hd
    have hy : yA s = skipS s 0 := by unfold yA; rw [hA]; rfl
    rcases h.dot with ⟨d1, _⟩ | ⟨_, d2, _⟩
    · rw [hy] at d1
      obtain ⟨hi, h2⟩ := tst_some d1
      rw [tst_at hi]
      exact (isg_dot h2).1
    · exact absurd (by rw [hA, d2]; rfl) h.nn
/-- The mantissa as it stands. -/
def manA (s D2 : Str) : Str := dA s ++ cond (tst (isb 46) s (yA s)) (46 :: D2) []
theorem man_eq {s D2 : Str} {e : Nat} (h : NumD s D2 e) : s.drop (skipS s 0) = manA s D2 ++ s.drop e := by
  rw [drop_dig s (skipS s 0)]
  show dA s ++ s.drop (yA s) = _
  unfold manA
  rcases h.dot with ⟨d1, d2, d3, _⟩ | ⟨d1, d2, d3⟩
  · obtain ⟨hi, h2⟩ := tst_some d1
    rw [drop_get hi, (isg_dot h2).2.2.2.2, d1, drop_dig s (yA s + 1), ← d2, ← d3]
    simp
  · rw [d1, d3]
    simp
theorem man_len {s D2 : Str} {e : Nat} (h : NumD s D2 e) : skipS s 0 + (manA s D2).length = e := by
  unfold manA
  rcases h.dot with ⟨d1, d2, d3, _⟩ | ⟨d1, d2, d3⟩
  · rw [d1, d3]; unfold yA; simp; omega
  · rw [d1, d3]; unfold yA; simp
theorem man_all {s D2 : Str} {e : Nat} (h : NumD s D2 e) : ∀ b ∈ manA s D2, isg b = false ∧ iee b = false ∧ b.toNat < 128 := by
  intro b hb
  have hd := alldig h
  unfold manA at hb
  rcases List.mem_append.1 hb with hb | hb
  · have := isg_dig (hd b (List.mem_append_left _ hb))
    exact ⟨this.1, this.2.2.1, this.2.2.2⟩
  · cases hq : tst (isb 46) s (yA s) with
    | false => rw [hq] at hb; cases hb
    | true =>
      rw [hq] at hb
      rcases List.mem_cons.1 hb with rfl | hb
      · exact ⟨rfl, rfl, by decide⟩
      · have := isg_dig (hd b (List.mem_append_right _ hb))
        exact ⟨this.1, this.2.2.1, this.2.2.2⟩
theorem idx_app (cs : List UInt8) : ∀ (A B : List UInt8), (∀ b ∈ A, cs.contains b = false) → Lib.indexAny (A ++ B) cs = if Lib.indexAny B cs = -1 then -1 else (A.length : Int) + Lib.indexAny B cs
  | [], B, _ => by
    simp only [List.nil_append, List.length_nil]
    split <;> omega
  | a :: A, B, h => by
    have ih := idx_app cs A B fun b hb => h b (List.mem_cons_of_mem _ hb)
    rw [List.cons_append, Lib.indexAny, if_neg (by rw [h a List.mem_cons_self]; exact Bool.false_ne_true), ih]
    have := Lib.indexAny_ge cs B
    by_cases hb : Lib.indexAny B cs = -1
    · rw [if_pos hb, if_pos hb]; rfl
    · rw [if_neg hb, if_neg hb, if_neg (by simp; omega)]
      simp
      omega
theorem idx_byte (c : UInt8) : ∀ (A B : List UInt8), (∀ b ∈ A, (b == c) = false) → Lib.indexByte (A ++ c :: B) c = (A.length : Int)
  | [], B, _ => by
    rw [List.nil_append, Lib.indexByte, if_pos (beq_self_eq_true c)]
    rfl
  | a :: A, B, h => by
    have ih := idx_byte c A B fun b hb => h b (List.mem_cons_of_mem _ hb)
    rw [List.cons_append, Lib.indexByte, if_neg (by rw [h a List.mem_cons_self]; exact Bool.false_ne_true), ih, if_neg (by simp)]
    simp
theorem idx_no (c : UInt8) : ∀ (A : List UInt8), (∀ b ∈ A, (b == c) = false) → Lib.indexByte A c = -1
  | [], _ => rfl
  | a :: A, h => by
    have ih := idx_no c A fun b hb => h b (List.mem_cons_of_mem _ hb)
    rw [Lib.indexByte, if_neg (by rw [h a List.mem_cons_self]; exact Bool.false_ne_true), ih]
    rfl
theorem cut_ok {s D2 : Str} {e : Nat} (h : NumD s D2 e) (hl : s.length < 1000000) : ∃ b, strings_Cut (manA s D2) [46] = some (dA s, D2, b) := by
  have hml := man_len h
  have hle := h.le
  have hdd : ∀ b ∈ dA s, (b == (46 : UInt8)) = false := fun b hb => by
    rw [eqb]
    exact (isg_dig (alldig h b (List.mem_append_left _ hb))).2.1
  have hne : (([46] : Str) == manA s D2) = false := by
    refine beq_eq_false_iff_ne.2 fun h1 => ?_
    have h2 : dA s ++ cond (tst (isb 46) s (yA s)) (46 :: D2) [] = [46] := h1.symm
    cases hA : dA s with
    | nil =>
      rw [hA] at h2
      have hD : D2 ≠ [] := fun h3 => h.nn (by rw [hA, h3]; rfl)
      cases hq : tst (isb 46) s (yA s) with
      | false => rw [hq] at h2; cases h2
      | true => rw [hq] at h2; exact hD (by simpa using h2)
    | cons x r =>
      rw [hA] at h2
      have h3 : x = 46 := by simpa using congrArg List.head? h2
      have h4 := hdd x (by rw [hA]; exact List.mem_cons_self)
      rw [h3] at h4
      cases h4
  have n1 : ln ([46] : Str) = 1 := rfl
  unfold strings_Cut stringslite_Cut stringslite_Index
  simp only [lt_eq]
  rw [n1, hne]
  simp only [show ((1 : Int) == 0) = false from rfl, show ((1 : Int) == 1) = true from rfl, cond_true, cond_false]
  rw [chk_pos (by decide)]
  simp only [Option.bind_some]
  have hb : stringslite_IndexByte (manA s D2) (bat [46] 0) = Lib.indexByte (manA s D2) 46 := rfl
  rw [hb]
  generalize hq : Lib.indexByte (manA s D2) 46 = q
  unfold manA at hml hq ⊢
  rcases h.dot with ⟨d1, d2, d3, _⟩ | ⟨d1, d2, d3⟩
  · rw [d1] at hml hq ⊢
    simp only [cond_true] at hml hq ⊢
    rw [idx_byte 46 _ _ hdd] at hq
    subst hq
    rw [decide_eq_true (show (0 : Int) ≤ ((dA s).length : Int) from by omega)]
    simp only [cond_true]
    have hlen : (dA s ++ 46 :: D2).length = (dA s).length + (D2.length + 1) := by simp
    rw [hlen] at hml
    rw [chk_pos (by unfold ln; rw [hlen]; omega), w64_ix (by omega), chk_pos (by unfold ln; rw [hlen]; omega)]
    simp only [Option.bind_some]
    refine ⟨true, ?_⟩
    have e1 : sub (dA s ++ 46 :: D2) 0 ((dA s).length : Int) = dA s := by simp [sub]
    have e2 : sub (dA s ++ 46 :: D2) (((dA s).length + 1 : Nat) : Int) (ln (dA s ++ 46 :: D2)) = D2 := by
      unfold sub ln
      rw [show ((((dA s).length + 1 : Nat) : Int)).toNat = (dA s).length + 1 from by omega, show (((dA s ++ 46 :: D2).length : Int)).toNat = (dA s).length + 1 + D2.length from by rw [hlen]; omega]
      rw [Nat.add_sub_cancel_left, ← List.drop_drop, List.drop_left]
      simp
    rw [e1, e2]
  · rw [d1, d2] at hq ⊢
    simp only [cond_false, List.append_nil] at hq ⊢
    rw [idx_no 46 _ hdd] at hq
    subst hq
    exact ⟨false, rfl⟩
theorem last_t (m : Nat) (s D1 D2 : Str) (k c : Int) (hm : 14 < m) (hD : (D1 ++ D2).length < m) (hd : ∀ b ∈ D1 ++ D2, isd b = true) (hl : (D1 ++ D2).length < 1000000) (hk : c = k - (D2.length : Int)) (hc : -9000000 < c ∧ c < 9000000) (hs : 0 < s.length) :
    (chk (ln D1 + ln D2 ≤ 9223372036854775807) <|
      Option.bind (lt (decide ((w64 (k - (ln D2))) < 0)) fun x63 => cond x63 (
        lt (w64 ((ln (D1 ++ D2)) + (w64 (k - (ln D2))))) fun x66 =>
        chk (0 ≤ (if 0 < x66 then x66 else 0) ∧ (if 0 < x66 then x66 else 0) ≤ ln (D1 ++ D2)) <|
        lt (sub (D1 ++ D2) 0 (if 0 < x66 then x66 else 0)) fun x68 => some x68) (some (D1 ++ D2))) fun (z62 : Str) =>
      Option.bind (token_thousandths_L2 m z62 m 0 0) fun (z73 : Int) =>
      Option.bind (token_thousandths_L3 m m (w64 (k - (ln D2))) z73) fun (z96 : Int) =>
      Option.bind (cond ((bat s 0) == 45) (some (w64 (0 - z96))) (some z96)) fun (z109 : Int) => some z109) = some (worth s (D1 ++ D2) c) := by
  have hsum : (D1 ++ D2).length = D1.length + D2.length := List.length_append
  have hw : w64 (k - ln D2) = c := by rw [w64_id (by unfold ln; omega) (by unfold ln; omega)]; unfold ln; omega
  rw [chk_pos (by unfold ln; omega), hw]
  simp only [lt_eq]
  have e1 : (cond (decide (c < 0)) (
        chk (0 ≤ (if 0 < w64 ((ln (D1 ++ D2)) + c) then w64 ((ln (D1 ++ D2)) + c) else 0) ∧ (if 0 < w64 ((ln (D1 ++ D2)) + c) then w64 ((ln (D1 ++ D2)) + c) else 0) ≤ ln (D1 ++ D2)) <|
        some (sub (D1 ++ D2) 0 (if 0 < w64 ((ln (D1 ++ D2)) + c) then w64 ((ln (D1 ++ D2)) + c) else 0))) (some (D1 ++ D2))) = some ((D1 ++ D2).take (((D1 ++ D2).length : Int) + c).toNat) := by
    by_cases h0 : c < 0
    · rw [decide_eq_true h0]
      simp only [cond_true]
      have hw2 : w64 (ln (D1 ++ D2) + c) = ((D1 ++ D2).length : Int) + c := by rw [w64_id (by unfold ln; omega) (by unfold ln; omega)]; rfl
      rw [hw2]
      have hx : (if 0 < ((D1 ++ D2).length : Int) + c then ((D1 ++ D2).length : Int) + c else 0) = (((((D1 ++ D2).length : Int) + c).toNat : Nat) : Int) := by split <;> omega
      rw [hx, chk_pos (by unfold ln; omega)]
      congr 1
    · rw [decide_eq_false h0]
      simp only [cond_false]
      rw [List.take_of_length_le (by omega)]
  rw [e1]
  simp only [Option.bind_some]
  generalize hz : (D1 ++ D2).take (((D1 ++ D2).length : Int) + c).toNat = z
  have hzl : z.length ≤ (D1 ++ D2).length := by rw [← hz, List.length_take]; omega
  have hzd : ∀ b ∈ z, isd b = true := fun b hb => hd b (by rw [← hz] at hb; exact List.mem_of_mem_take hb)
  have h2 := capL2 m z hzd (by omega) m 0 0 (by omega) (by omega) (by omega)
  simp only [Int.natCast_zero, List.drop_zero] at h2
  rw [h2]
  simp only [Option.bind_some]
  have hv := capf_le 1000000000000 z 0 (by omega)
  rw [mulL_t m m c _ (by omega) (by omega) hv (by omega) ?_]
  · simp only [Option.bind_some]
    have hb : (bat s 0 == 45) = tst (isb 45) s 0 := bat_is hs 45 (by omega)
    rw [hb]
    unfold worth
    rw [hz]
    have := mulT_le c _ hv
    cases tst (isb 45) s 0
    · rfl
    · simp only [cond_true, Option.bind_some]
      rw [w64_id (by omega) (by omega), Int.zero_sub]
  · by_cases h0 : capf 1000000000000 z 0 = 0
    · exact Or.inl h0
    · right
      have h1 : (10 : Nat) ^ 12 ≤ 10 ^ (m - 1) := Nat.pow_le_pow_right (by decide) (by omega)
      have h2 : (10 : Nat) ^ 12 = 1000000000000 := by decide
      have h3 : 10 ^ (m - 1) ≤ capf 1000000000000 z 0 * 10 ^ (m - 1) := Nat.le_mul_of_pos_left _ (by omega)
      omega
theorem asc_drop {s D2 : Str} {e : Nat} (h : NumD s D2 e) : ascB (s.drop (skipS s 0)) = true := by
  rw [man_eq h]
  unfold ascB
  rw [List.all_append, Bool.and_eq_true]
  refine ⟨List.all_eq_true.2 fun b hb => decide_eq_true (man_all h b hb).2.2, ?_⟩
  rcases h.ex with ⟨x1, x2, x3⟩ | ⟨_, x2⟩
  · obtain ⟨hi, h2⟩ := tst_some x1
    rw [drop_get hi, List.all_cons, Bool.and_eq_true]
    refine ⟨decide_eq_true ?_, ?_⟩
    · unfold iee isb at h2
      rw [Bool.or_eq_true] at h2
      rcases h2 with h2 | h2
      · have : s[e].toNat = 101 := by simpa using h2
        omega
      · have : s[e].toNat = 69 := by simpa using h2
        omega
    · have hj : (s.drop (jx s e)).all (fun b => decide (b.toNat < 128)) = true := List.all_eq_true.2 fun b hb => decide_eq_true (isg_dig (x2 b hb)).2.2.2
      unfold jx at hj
      cases hg : tst isg s (e + 1) with
      | false => rw [hg] at hj; exact hj
      | true =>
        rw [hg] at hj
        obtain ⟨hi2, h3⟩ := tst_some hg
        rw [drop_get hi2, List.all_cons, Bool.and_eq_true]
        refine ⟨decide_eq_true ?_, hj⟩
        unfold isg isb at h3
        rw [Bool.or_eq_true] at h3
        rcases h3 with h3 | h3
        · have : s[e + 1].toNat = 43 := by simpa using h3
          omega
        · have : s[e + 1].toNat = 45 := by simpa using h3
          omega
  · rw [x2, List.drop_length]
    rfl
theorem thou_t (m : Nat) (s D2 : Str) (e : Nat) (h : NumD s D2 e) (hs : s.length < 100000) (hm : s.length + 20 < m) :
    token_thousandths m s = some (worth s (dA s ++ D2) (3 - D2.length + expo s e 1048576)) := by
  have hln := len_le h
  have hle := h.le
  have hD2 : D2.length ≤ s.length := by have hq := hln; rw [List.length_append] at hq; omega
  have h0 : 0 < s.length := by
    have : 0 < (dA s ++ D2).length := List.length_pos_iff.2 h.nn
    omega
  have hml := man_len h
  have hx := expo_le s e 1048576
  unfold token_thousandths
  rw [chk_pos (by unfold ln; omega)]
  have htr : Lib.trimLeftS s [43, 45] = s.drop (skipS s 0) := by
    have h1 : Lib.trimLeftS (s.drop 0) [43, 45] = Lib.trimLeftS (s.drop (skipS s 0)) [43, 45] := by
      unfold skipS
      cases ht : tst isg s 0 with
      | false => rfl
      | true => exact trim_t ht
    rw [List.drop_zero] at h1
    rw [h1, trim_f (nosign h)]
  have hyl : (s.drop (skipS s 0)).length ≤ s.length := by rw [List.length_drop]; omega
  unfold x_strings_TrimLeft x_strings_IndexAny
  rw [htr, chk_pos ⟨by decide, by decide⟩]
  simp only [Option.bind_some]
  rw [chk_pos ⟨asc_drop h, by decide, by omega, by decide⟩]
  simp only [Option.bind_some]
  have hni : ∀ b ∈ manA s D2, ([101, 69] : List UInt8).contains b = false := fun b hb => by rw [iee_c]; exact (man_all h b hb).2.1
  have hidx := idx_app [101, 69] (manA s D2) (s.drop e) hni
  rw [← man_eq h] at hidx
  have hy6 := man_eq h
  obtain ⟨bb, hcut⟩ := cut_ok h (by omega)
  have hfin := fun k hk => last_t m s (dA s) D2 k (3 - (D2.length : Int) + expo s e 1048576) (by omega) (by omega) (alldig h) (by omega) hk (by omega) h0
  generalize hY : s.drop (skipS s 0) = y6 at *
  generalize hI : Lib.indexAny y6 [101, 69] = q at *
  have hyl6 : y6.length = (manA s D2).length + (s.length - e) := by rw [hy6, List.length_append, List.length_drop]
  have e2 : (Option.bind (cond (decide (0 ≤ q)) (
      Option.bind (
      chk (0 ≤ (w64 (q + 1)) ∧ (w64 (q + 1)) ≤ ln y6) <|
      Option.bind (chk (ascB [43, 45] = true ∧ ([43, 45] : Str).length < 4294967281) (some (Lib.trimLeftS (sub y6 (w64 (q + 1)) (ln y6)) [43, 45]))) fun y21 =>
      token_thousandths_L1 m y21 m 0 0) fun (z19 : Int) =>
      Option.bind (
      chk (0 ≤ (w64 (q + 1)) ∧ (w64 (q + 1)) < ln y6) <|
      cond ((bat y6 (w64 (q + 1))) == 45) (
      some (w64 (0 - z19))) (
      some z19)) fun (z43 : Int) =>
      chk (0 ≤ q ∧ q ≤ ln y6) <|
      some (sub y6 0 q, w64 (3 + z43))) (
      some (y6, 3))) fun z => some z) = some (manA s D2, 3 + expo s e 1048576) := by
    rcases h.ex with ⟨x1, x2, x3⟩ | ⟨x1, x2⟩
    · have hl := tst_lt x1
      have hj : e + 1 < s.length := by
        unfold jx at x3
        cases hg : tst isg s (e + 1) with
        | true => exact tst_lt hg
        | false => rw [hg] at x3; exact x3
      have hB : Lib.indexAny (s.drop e) [101, 69] = 0 := by
        rw [drop_get hl, Lib.indexAny, iee_c, ← tst_at (p := iee) hl, x1]
        rfl
      rw [hB, if_neg (by decide), Int.add_zero] at hidx
      subst hidx
      have hy1 : y6.drop ((manA s D2).length + 1) = s.drop (e + 1) := by
        rw [hy6, ← List.drop_drop, List.drop_left, List.drop_drop]
      have hsub : sub y6 (((manA s D2).length + 1 : Nat) : Int) (ln y6) = s.drop (e + 1) := by
        unfold sub ln
        rw [Int.toNat_natCast, Int.toNat_natCast, hy1, List.take_of_length_le (by rw [List.length_drop]; omega)]
      have htr2 : Lib.trimLeftS (s.drop (e + 1)) [43, 45] = s.drop (jx s e) := by
        have hns : tst isg s (jx s e) = false := by
          rw [tst_at x3]
          exact (isg_dig (x2 _ (by rw [drop_get x3]; exact List.mem_cons_self))).1
        unfold jx at hns ⊢
        cases hg : tst isg s (e + 1) with
        | false => rw [hg] at hns; exact trim_f hns
        | true => rw [hg] at hns; rw [trim_t hg]; exact trim_f hns
      have hbt : bat y6 (((manA s D2).length + 1 : Nat) : Int) = bat s ((e + 1 : Nat) : Int) := by
        rw [bat_nat y6 _ (by omega), bat_nat s _ hj]
        have h1 : y6[(manA s D2).length + 1]? = s[e + 1]? := by
          have h2 := congrArg (·[0]?) hy1
          simpa using h2
        rw [List.getElem?_eq_getElem (by omega), List.getElem?_eq_getElem hj] at h1
        rw [Option.some.inj h1]
      rw [decide_eq_true (show (0 : Int) ≤ ((manA s D2).length : Int) from by omega), w64_ix (by omega), hsub, hbt]
      simp only [cond_true]
      rw [chk_pos (by unfold ln; omega), chk_pos ⟨by decide, by decide⟩, htr2]
      simp only [Option.bind_some]
      have h3 := capL1 m (s.drop (jx s e)) x2 (by rw [List.length_drop]; omega) m 0 0 (by rw [List.length_drop]; omega) (by omega) (by omega)
      simp only [Int.natCast_zero, List.drop_zero] at h3
      rw [h3]
      simp only [Option.bind_some]
      rw [chk_pos (by unfold ln; omega), show (45 : Int) = ((45 : Nat) : Int) from rfl, bat_is hj 45 (by omega)]
      have hcl := capf_le 1048576 (s.drop (jx s e)) 0 (by omega)
      have hs0 : sub y6 0 ((manA s D2).length : Int) = manA s D2 := by
        unfold sub
        rw [Int.toNat_natCast]
        show (y6.drop 0).take ((manA s D2).length - 0) = _
        rw [List.drop_zero, Nat.sub_zero, hy6, List.take_left]
      unfold expo
      rw [x1, hs0]
      cases hq : tst (isb 45) s (e + 1)
      · simp only [cond_true, cond_false, Option.bind_some]
        rw [chk_pos (by unfold ln; omega), w64_id (by omega) (by omega)]
        rfl
      · simp only [cond_true, Option.bind_some]
        rw [chk_pos (by unfold ln; omega), w64_id (x := 0 - ((capf 1048576 (s.drop (jx s e)) 0 : Nat) : Int)) (by omega) (by omega), w64_id (by omega) (by omega), Int.zero_sub]
        rfl
    · have hB : s.drop e = [] := by rw [x2, List.drop_length]
      rw [hB] at hidx
      have hq : q = -1 := hidx
      subst hq
      have hm6 : y6 = manA s D2 := by rw [hy6, hB, List.append_nil]
      unfold expo
      rw [x1, hm6]
      rfl
  simp only [Option.bind_fun_some] at e2
  rw [e2]
  simp only [Option.bind_some]
  rw [hcut]
  simp only [Option.bind_some]
  exact hfin _ (by omega)
/-- However great the exponent: both holds say the same. -/
theorem worth_eq {s D2 : Str} {e : Nat} (h : NumD s D2 e) (hs : s.length ≤ 4000) : worth s (dA s ++ D2) (3 - D2.length + expo s e 1048576) = worth s (dA s ++ D2) (3 - D2.length + expo s e 10000) := by
  have hln := len_le h
  have hle := h.le
  have hD2 : D2.length ≤ s.length := by have hq := hln; rw [List.length_append] at hq; omega
  have hc := capf_min 10000 1048576 (by decide) (s.drop (jx s e)) 0 0 rfl
  have hc2 := capf_le 1048576 (s.drop (jx s e)) 0 (by omega)
  unfold expo
  cases tst iee s e
  · rfl
  · simp only [cond_true]
    generalize capf 1048576 (s.drop (jx s e)) 0 = E at hc hc2
    rw [hc]
    rcases Nat.lt_or_ge E 10001 with h1 | h1
    · rw [Nat.min_eq_right (by omega : E ≤ 10000)]
    · rw [Nat.min_eq_left (by omega : 10000 ≤ E)]
      cases tst (isb 45) s (e + 1)
      · simp only [cond_false]
        unfold worth
        rw [List.take_of_length_le (by omega), List.take_of_length_le (by omega)]
        have hv := capf_le 1000000000000 (dA s ++ D2) 0 (by omega)
        rw [mulT_big _ _ hv (by omega), mulT_big _ _ hv (by omega)]
      · simp only [cond_true]
        unfold worth
        have z1 : (((dA s ++ D2).length : Int) + (3 - (D2.length : Int) + -(E : Int))).toNat = 0 := by omega
        have z2 : (((dA s ++ D2).length : Int) + (3 - (D2.length : Int) + -((10000 : Nat) : Int))).toNat = 0 := by omega
        rw [z1, z2, List.take_zero]
        have z3 : ∀ c, mulT c (capf 1000000000000 [] 0) = 0 := fun c => by
          show mulT c 0 = 0
          unfold mulT
          rw [if_pos (Or.inr rfl)]
        rw [z3, z3]
theorem numEnd_le (s : Str) : (numEnd s).1 ≤ s.length := by
  have h1 := endM_le s
  unfold numEnd endE
  cases ht : tst iee s (endM s).1 with
  | false => exact h1
  | true =>
    simp only [cond_true]
    cases hd : tst isd s (cond (tst isg s ((endM s).1 + 1)) ((endM s).1 + 2) ((endM s).1 + 1)) with
    | false => exact h1
    | true => exact dig_le s _ (Nat.le_of_lt (tst_lt hd))
end Go.Proofs.YtfancfogkhclfaaGreatDoor

/-
  TokenNumbers: the model comes to 'true' for every number. No program in sight.
-/
import Derived.Test.YtfancfogkhclfaaGreatDoorPL
set_option linter.unusedVariables false
set_option maxRecDepth 100000
namespace Go.Proofs.YtfancfogkhclfaaGreatDoor
open Go Go.V
theorem alive_ok : law02_alive 30000 = some true := by kernel_rfl
/-! ## What a whole number is written as -/
theorem capf_app (cap : Nat) (a b : Str) (v : Nat) : capf cap (a ++ b) v = capf cap b (capf cap a v) := List.foldl_append
theorem dig_byte (q : Nat) (h : q < 10) : ∃ b : UInt8, toB ([wu8 (w64 (48 + (q : Int)))] : List Int) = [b] ∧ isd b = true ∧ b.toNat - 48 = q := by
  have hall : ∀ q : Fin 10, toB ([wu8 (w64 (48 + ((q.val : Nat) : Int)))] : List Int) = [UInt8.ofNat (48 + q.val)] ∧ isd (UInt8.ofNat (48 + q.val)) = true ∧ (UInt8.ofNat (48 + q.val)).toNat - 48 = q.val := by decide +kernel
  exact ⟨_, hall ⟨q, h⟩⟩
theorem digits_nat (m : Nat) : ∀ (k n : Nat), n < 10 ^ (k + 1) → k < 10 → ∃ D : Str, law02_digits_r m (k + 1) (n : Int) = some D ∧ D ≠ [] ∧ (∀ b ∈ D, isd b = true) ∧ D.length ≤ k + 1 ∧ capf 1000000000000 D 0 = n := by
  intro k
  induction k with
  | zero =>
    intro n hn _
    have hn : n < 10 := by simpa using hn
    obtain ⟨b, b1, b2, b3⟩ := dig_byte n hn
    refine ⟨[b], ?_, by simp, by simpa using b2, by simp, ?_⟩
    · rw [law02_digits_r, show decide ((n : Int) < 0) = false from decide_eq_false (by omega), cond_false, tmod_pos (by omega), show (n : Int) % 10 = (n : Int) from by omega, b1, lt_eq, show decide ((n : Int) < 10) = true from decide_eq_true (by omega), cond_true]
    · show min 1000000000000 (10 * 0 + (b.toNat - 48)) = n
      omega
  | succ k ih =>
    intro n hn hk
    have hp : 10 ^ (k + 1) ≤ 10 ^ 10 := Nat.pow_le_pow_right (by decide) (by omega)
    have hn2 : n < 100000000000 := by rw [Nat.pow_succ] at hn; omega
    obtain ⟨b, b1, b2, b3⟩ := dig_byte (n % 10) (by omega)
    rw [law02_digits_r, show decide ((n : Int) < 0) = false from decide_eq_false (by omega), cond_false, tmod_pos (by omega), show (n : Int) % 10 = ((n % 10 : Nat) : Int) from by omega, b1, lt_eq]
    by_cases h10 : n < 10
    · rw [show decide ((n : Int) < 10) = true from decide_eq_true (by omega), cond_true]
      refine ⟨[b], rfl, by simp, by simpa using b2, by simp, ?_⟩
      show min 1000000000000 (10 * 0 + (b.toNat - 48)) = n
      omega
    · obtain ⟨D, d1, d2, d3, d4, d5⟩ := ih (n / 10) (by rw [Nat.pow_succ] at hn; omega) (by omega)
      rw [show decide ((n : Int) < 10) = false from decide_eq_false (by omega), cond_false, tdiv_pos (by omega), show (n : Int) / 10 = ((n / 10 : Nat) : Int) from by omega, w64_id (by omega) (by omega), d1, Option.bind_some, chk_pos (by unfold ln; simp only [List.length_cons, List.length_nil]; omega)]
      refine ⟨D ++ [b], rfl, by simp, ?_, by simp; omega, ?_⟩
      · intro x hx
        rcases List.mem_append.1 hx with h | h
        · exact d3 x h
        · have : x = b := by simpa using h
          rw [this]; exact b2
      · rw [capf_app, d5]
        show min 1000000000000 (10 * (n / 10) + (b.toNat - 48)) = n
        omega
/-- More fuel gives the same. -/
theorem dig_more (m : Nat) : ∀ {k K : Nat} {n : Int} {D : Str}, k ≤ K → law02_digits_r m k n = some D → 0 < k → law02_digits_r m K n = some D := by
  intro k
  induction k with
  | zero => intro K n D _ _ h; omega
  | succ k ih =>
    intro K n D hk h _
    obtain ⟨K, rfl⟩ : ∃ q, K = q + 1 := ⟨K - 1, by omega⟩
    have go : ∀ (x : Int) (f : Str → Option Str), Option.bind (law02_digits_r m k x) f = some D → Option.bind (law02_digits_r m K x) f = some D := by
      intro x f hx
      obtain ⟨y, y1, y2⟩ := bind_some' hx
      have hk0 : 0 < k := by
        cases k with
        | zero => cases y1
        | succ k => omega
      rw [ih (by omega) y1 hk0, Option.bind_some]
      exact y2
    rw [law02_digits_r] at h ⊢
    cases h1 : decide (n < 0) with
    | true => rw [h1, cond_true] at h; rw [cond_true]; exact go _ _ h
    | false =>
      rw [h1, cond_false, lt_eq] at h
      rw [cond_false, lt_eq]
      cases h2 : decide (n < 10) with
      | true => rw [h2, cond_true] at h; rw [cond_true]; exact h
      | false => rw [h2, cond_false] at h; rw [cond_false]; exact go _ _ h
/-! ## A sign, digits, and what comes behind -/
structure Num (s sg D r : Str) : Prop where
  eq : s = sg ++ (D ++ r)
  sg : sg = [] ∨ sg = [45]
  ne : D ≠ []
  dig : ∀ b ∈ D, isd b = true
  stop : tst isd r 0 = false
theorem isd_not {b : UInt8} (h : isd b = true) : isg b = false ∧ isb 45 b = false ∧ isb 46 b = false ∧ iee b = false := by
  unfold isd at h
  rw [Bool.and_eq_true] at h
  have h1 := of_decide_eq_true h.1
  have h2 := of_decide_eq_true h.2
  unfold isg iee isb
  refine ⟨?_, ?_, ?_, ?_⟩ <;> simp <;> omega
theorem Num.head {s sg D r : Str} (h : Num s sg D r) : ∃ b D', D = b :: D' ∧ isd b = true := by
  cases hD : D with
  | nil => exact absurd hD h.ne
  | cons b D' => exact ⟨b, D', rfl, h.dig b (by rw [hD]; exact List.mem_cons_self)⟩
theorem Num.skip {s sg D r : Str} (h : Num s sg D r) : skipS s 0 = sg.length := by
  obtain ⟨b, D', hD, hb⟩ := h.head
  rw [h.eq]
  rcases h.sg with hs | hs
  · rw [hs, hD]
    unfold skipS
    rw [show tst isg ([] ++ (b :: D' ++ r)) 0 = isg b from rfl, (isd_not hb).1]; rfl
  · rw [hs]; rfl
theorem Num.neg {s sg D r : Str} (h : Num s sg D r) : tst (isb 45) s 0 = !(sg == []) := by
  obtain ⟨b, D', hD, hb⟩ := h.head
  rw [h.eq]
  rcases h.sg with hs | hs
  · rw [hs, hD, show tst (isb 45) ([] ++ (b :: D' ++ r)) 0 = isb 45 b from rfl, (isd_not hb).2.1]; rfl
  · rw [hs]; rfl
theorem takeW {D r : Str} (h : ∀ b ∈ D, isd b = true) (hr : tst isd r 0 = false) : (D ++ r).takeWhile isd = D := by
  rw [List.takeWhile_append_of_pos h]
  cases r with
  | nil => simp
  | cons a r =>
    have : isd a = false := hr
    rw [List.takeWhile_cons_of_neg (by rw [this]; simp), List.append_nil]
theorem Num.dA {s sg D r : Str} (h : Num s sg D r) : Go.Proofs.YtfancfogkhclfaaGreatDoor.dA s = D := by
  unfold Go.Proofs.YtfancfogkhclfaaGreatDoor.dA digS
  rw [h.skip, h.eq, List.drop_left]
  exact takeW h.dig h.stop
theorem Num.yA {s sg D r : Str} (h : Num s sg D r) : Go.Proofs.YtfancfogkhclfaaGreatDoor.yA s = sg.length + D.length := by
  unfold Go.Proofs.YtfancfogkhclfaaGreatDoor.yA; rw [h.skip, h.dA]
theorem Num.rest {s sg D r : Str} (h : Num s sg D r) (p : UInt8 → Bool) (k : Nat) : tst p s (sg.length + D.length + k) = tst p r k := by
  rw [tst_drop, h.eq, ← List.append_assoc, show sg.length + D.length = (sg ++ D).length from List.length_append.symm, List.drop_left]
theorem Num.digR {s sg D r : Str} (h : Num s sg D r) (k : Nat) : digS s (sg.length + D.length + k) = digS r k := by
  rw [dig_drop, h.eq, ← List.append_assoc, show sg.length + D.length = (sg ++ D).length from List.length_append.symm, List.drop_left]
theorem Num.len {s sg D r : Str} (h : Num s sg D r) : s.length = sg.length + D.length + r.length := by
  rw [h.eq, List.length_append, List.length_append]; omega
theorem Num.start {s sg D r : Str} (h : Num s sg D r) : numAt s 0 = true := by
  obtain ⟨b, D', hD, hb⟩ := h.head
  have h1 : tst isd s (skipS s 0) = true ∧ tst (isb 46) s (skipS s 0) = false := by
    rw [h.skip]
    have e : ∀ p, tst p s (sg.length + 0) = p b := fun p => by
      rw [tst_drop, h.eq, List.drop_left, hD]; rfl
    rw [show sg.length = sg.length + 0 from rfl, e, e]
    exact ⟨hb, (isd_not hb).2.2.1⟩
  unfold numAt
  dsimp only
  rw [h1.2, cond_false]
  exact h1.1
theorem Num.endM {s sg D r : Str} (h : Num s sg D r) : Go.Proofs.YtfancfogkhclfaaGreatDoor.endM s = cond (cond (tst (isb 46) r 0) (tst isd r 1) false) (sg.length + D.length + 1 + (digS r 1).length, false) (sg.length + D.length, true) := by
  have e0 : tst (isb 46) s (sg.length + D.length) = tst (isb 46) r 0 := h.rest (isb 46) 0
  rw [endM_eq s (sg.length + D.length) (by rw [← h.yA]; rfl), e0, h.rest isd 1, h.digR 1]
/-- The worth of a whole number with some noughts behind it, moved back. -/
theorem capf_null (v : Nat) : ∀ j : Nat, v * 10 ^ j ≤ 1000000000000 → capf 1000000000000 (List.replicate j 48) v = v * 10 ^ j := by
  intro j
  induction j generalizing v with
  | zero => intro h; simp [capf]
  | succ j ih =>
    intro h
    have e : v * 10 ^ (j + 1) = 10 * v * 10 ^ j := by rw [Nat.pow_succ, Nat.mul_comm (10 ^ j) 10, ← Nat.mul_assoc, Nat.mul_comm v 10]
    rw [List.replicate_succ, capf_cons, e]
    have h2 : 10 * v ≤ 1000000000000 := by
      rw [e] at h
      exact Nat.le_trans (Nat.le_mul_of_pos_right _ (Nat.pow_pos (by decide))) h
    have e2 : min 1000000000000 (10 * v + ((48 : UInt8).toNat - 48)) = 10 * v := by
      rw [show ((48 : UInt8).toNat - 48) = 0 from rfl, Nat.add_zero]; exact Nat.min_eq_right h2
    rw [e2]
    exact ih (10 * v) (by rw [← e]; exact h)
theorem mul_fin (n j : Nat) (hn : n ≤ 999999) (hj : j ≤ 6) : mulT (3 - (j : Int)) (n * 10 ^ (min 3 j)) = 1000 * n := by
  have h : ∀ j : Fin 7, min 3 j.val ≤ 3 ∧ (3 - (j.val : Int)) = ((3 - min 3 j.val : Nat) : Int) - ((j.val - min 3 j.val : Nat) : Int) := fun j => ⟨by omega, by omega⟩
  unfold mulT
  rcases (show j = 0 ∨ j = 1 ∨ j = 2 ∨ 3 ≤ j from by omega) with rfl | rfl | rfl | h3
  · show (if (3 : Int) ≤ 0 ∨ n * 1 = 0 then n * 1 else min 1000000000000 (n * 1 * 1000)) = _
    split <;> omega
  · show (if (2 : Int) ≤ 0 ∨ n * 10 = 0 then n * 10 else min 1000000000000 (n * 10 * 100)) = _
    split <;> omega
  · show (if (1 : Int) ≤ 0 ∨ n * 100 = 0 then n * 100 else min 1000000000000 (n * 100 * 10)) = _
    split <;> omega
  · rw [Nat.min_eq_left h3, if_pos (Or.inl (by omega))]; omega
theorem worth_null {s sg D r : Str} (h : Num s sg D r) {D0 : Str} {n j : Nat} (hD : capf 1000000000000 D0 0 = n) (hn : n ≤ 999999) (hj : j ≤ 6) : worth s (D0 ++ List.replicate j 48) (3 - (j : Int)) = cond (sg == []) (1000 * (n : Int)) (-(1000 * (n : Int))) := by
  have ht : (D0 ++ List.replicate j 48).take ((((D0 ++ List.replicate j 48).length : Nat) : Int) + (3 - (j : Int))).toNat = D0 ++ List.replicate (min 3 j) 48 := by
    have : ((((D0 ++ List.replicate j 48).length : Nat) : Int) + (3 - (j : Int))).toNat = D0.length + 3 := by
      rw [List.length_append, List.length_replicate]; omega
    rw [this, List.take_append, List.take_of_length_le (by omega), show D0.length + 3 - D0.length = 3 from by omega, List.take_replicate]
  unfold worth
  rw [ht, capf_app, hD, capf_null n (min 3 j) (by
    have : 10 ^ (min 3 j) ≤ 10 ^ 3 := Nat.pow_le_pow_right (by decide) (by omega)
    have := Nat.mul_le_mul_left n this
    omega), mul_fin n j hn hj, h.neg]
  cases sg == []
  · rw [Bool.not_false, cond_true, cond_false]; omega
  · rw [Bool.not_true, cond_false, cond_true]; omega
theorem value_of (m : Nat) (s : Str) (hs : s.length ≤ 4000) (hm : 4020 < m) (hn : numAt s 0 = true) (he : (numEnd s).1 = s.length) {D2 : Str} {e : Nat} (h : NumD s D2 e) :
    token_Value m s = some (worth s (dA s ++ D2) (3 - D2.length + expo s e 1048576), (numEnd s).2, 0) := by
  unfold token_Value
  rw [show decide ((4000 : Int) < ln s) = false from decide_eq_false (by unfold ln; omega), cond_false, number_ok s (by omega), Option.bind_some, hn, Bool.not_true, cond_false, end_t m s (by omega) (by omega), Option.bind_some]
  dsimp only
  rw [show decide ((((numEnd s).1 : Nat) : Int) < ln s) = false from decide_eq_false (by unfold ln; omega), cond_false, thou_t m s D2 e h (by omega) (by omega)]
  rfl
/-- The number alone. -/
theorem val_1 (m : Nat) {s sg D : Str} (h : Num s sg D []) (hs : s.length ≤ 4000) (hm : 4020 < m) {n : Nat} (hD : capf 1000000000000 D 0 = n) (hn : n ≤ 999999) : token_Value m s = some (cond (sg == []) (1000 * (n : Int)) (-(1000 * (n : Int))), true, 0) ∧ (numEnd s) = (s.length, true) ∧ NumD s [] s.length := by
  have hl := h.len
  rw [List.length_nil, Nat.add_zero] at hl
  have hM : endM s = (s.length, true) := by rw [h.endM, hl]; rfl
  have he : numEnd s = (s.length, true) := by
    unfold numEnd endE
    rw [hM]
    dsimp only
    rw [tst_end _ (Nat.le_refl _), cond_false]
  have hN : NumD s [] s.length := ⟨Or.inr ⟨by rw [h.yA, ← hl]; exact tst_end _ (Nat.le_refl _), rfl, by rw [h.yA, hl]⟩, Or.inr ⟨tst_end _ (Nat.le_refl _), rfl⟩, by rw [h.dA, List.append_nil]; exact h.ne, Nat.le_refl _⟩
  refine ⟨?_, he, hN⟩
  rw [value_of m s hs hm h.start (by rw [he]) hN, he, h.dA]
  have hx : expo s s.length 1048576 = 0 := by unfold expo; rw [tst_end _ (Nat.le_refl _), cond_false]
  have hw := worth_null h hD hn (j := 0) (by omega)
  rw [hx, show (3 - (([] : Str).length : Int) + 0) = 3 - ((0 : Nat) : Int) from rfl, show D ++ [] = D ++ List.replicate 0 48 from rfl, hw]
/-- With a point, and noughts behind it. -/
theorem val_2 (m : Nat) {s sg D : Str} {k : Nat} (hk : k ≤ 5) (h : Num s sg D (46 :: List.replicate (k + 1) 48)) (hs : s.length ≤ 4000) (hm : 4020 < m) {n : Nat} (hD : capf 1000000000000 D 0 = n) (hn : n ≤ 999999) : token_Value m s = some (cond (sg == []) (1000 * (n : Int)) (-(1000 * (n : Int))), false, 0) := by
  have hl := h.len
  rw [List.length_cons, List.length_replicate] at hl
  have hdr : digS (46 :: List.replicate (k + 1) 48) 1 = List.replicate (k + 1) 48 := by
    unfold digS
    show (List.replicate (k + 1) (48 : UInt8)).takeWhile isd = _
    have := takeW (D := List.replicate (k + 1) 48) (r := []) (fun b hb => by rw [List.eq_of_mem_replicate hb]; rfl) rfl
    rw [List.append_nil] at this
    exact this
  have hM : endM s = (s.length, false) := by rw [h.endM, hl, hdr, List.length_replicate, show sg.length + D.length + (k + 1 + 1) = sg.length + D.length + 1 + (k + 1) from by omega]; rfl
  have he : numEnd s = (s.length, false) := by
    unfold numEnd endE
    rw [hM]
    dsimp only
    rw [tst_end _ (Nat.le_refl _), cond_false]
  have hN : NumD s (List.replicate (k + 1) 48) s.length := ⟨Or.inl ⟨by
      have := h.rest (isb 46) 0
      rw [h.yA]; exact this, by rw [h.yA, h.digR 1, hdr], by rw [h.yA, List.length_replicate, hl]; omega, by simp⟩, Or.inr ⟨tst_end _ (Nat.le_refl _), rfl⟩, by simp, Nat.le_refl _⟩
  rw [value_of m s hs hm h.start (by rw [he]) hN, he, h.dA]
  have hx : expo s s.length 1048576 = 0 := by unfold expo; rw [tst_end _ (Nat.le_refl _), cond_false]
  have hw := worth_null h hD hn (j := k + 1) (by omega)
  rw [hx, show (3 - ((List.replicate (k + 1) (48 : UInt8)).length : Int) + 0) = 3 - ((k + 1 : Nat) : Int) from by rw [List.length_replicate]; omega, hw]
/-- With noughts, and an exponent that takes them away. -/
theorem val_3 (m : Nat) {s sg D : Str} {k : Nat} (hk : k ≤ 5) {d : UInt8} (hd : isd d = true) (hdk : d.toNat - 48 = k) (h : Num s sg (D ++ List.replicate k 48) [101, 45, d]) (hs : s.length ≤ 4000) (hm : 4020 < m) {n : Nat} (hD : capf 1000000000000 D 0 = n) (hn : n ≤ 999999) : token_Value m s = some (cond (sg == []) (1000 * (n : Int)) (-(1000 * (n : Int))), false, 0) := by
  have hl := h.len
  rw [show ([101, 45, d] : Str).length = 3 from rfl] at hl
  have hM : endM s = (sg.length + (D ++ List.replicate k 48).length, true) := by rw [h.endM]; rfl
  have a0 : tst iee s (sg.length + (D ++ List.replicate k 48).length) = true := h.rest iee 0
  have a1 : tst isg s (sg.length + (D ++ List.replicate k 48).length + 1) = true := h.rest isg 1
  have a2 : tst isd s (sg.length + (D ++ List.replicate k 48).length + 2) = true := by rw [h.rest isd 2]; exact hd
  have a3 : digS s (sg.length + (D ++ List.replicate k 48).length + 2) = [d] := by
    rw [h.digR 2]
    show ([d] : Str).takeWhile isd = [d]
    rw [List.takeWhile_cons_of_pos hd]; rfl
  have a4 : tst (isb 45) s (sg.length + (D ++ List.replicate k 48).length + 1) = true := h.rest (isb 45) 1
  have hdrop : s.drop (sg.length + (D ++ List.replicate k 48).length + 2) = [d] := by
    rw [h.eq, ← List.append_assoc, show sg.length + (D ++ List.replicate k (48 : UInt8)).length = (sg ++ (D ++ List.replicate k (48 : UInt8))).length from List.length_append.symm, ← List.drop_drop, List.drop_left]; rfl
  have he : numEnd s = (s.length, false) := by
    unfold numEnd endE
    rw [hM]
    dsimp only
    rw [a0, a1, cond_true, cond_true, a2, cond_true, a3, hl]; rfl
  have hjx : jx s (sg.length + (D ++ List.replicate k 48).length) = sg.length + (D ++ List.replicate k 48).length + 2 := by unfold jx; rw [a1, cond_true]
  have hN : NumD s [] (sg.length + (D ++ List.replicate k 48).length) := ⟨Or.inr ⟨by rw [h.yA]; exact h.rest (isb 46) 0, rfl, by rw [h.yA]⟩, Or.inl ⟨a0, by
    rw [hjx, hdrop]
    intro b hb
    have : b = d := by simpa using hb
    rw [this]; exact hd, by rw [hjx, hl]; omega⟩, by rw [h.dA, List.append_nil]; exact h.ne, by omega⟩
  rw [value_of m s hs hm h.start (by rw [he]) hN, he, h.dA]
  have hx : expo s (sg.length + (D ++ List.replicate k 48).length) 1048576 = -(k : Int) := by
    unfold expo
    rw [a0, cond_true, a4, cond_true, hjx, hdrop]
    show -((min 1048576 (10 * 0 + (d.toNat - 48)) : Nat) : Int) = _
    rw [hdk]; omega
  have hw := worth_null h hD hn (j := k) (by omega)
  rw [hx, List.append_nil, show (3 - (([] : Str).length : Int) + -(k : Int)) = 3 - (k : Int) from by show (3 - (0 : Int) + -(k : Int)) = _; omega, hw]
/-! ## The number is one token -/
theorem no_bad {s sg D : Str} (h : Num s sg D []) : hasC s = false := by
  unfold hasC
  rw [List.any_eq_false]
  intro b hb
  rw [h.eq, List.append_nil] at hb
  have h1 : isd b = true ∨ b = 45 := by
    rcases List.mem_append.1 hb with hb | hb
    · rcases h.sg with hs | hs
      · rw [hs] at hb; cases hb
      · rw [hs] at hb; exact Or.inr (by simpa using hb)
    · exact Or.inl (h.dig b hb)
  have hall : ((List.range 256).all fun n => cond (cond (isd (UInt8.ofNat n)) true (UInt8.ofNat n == 45)) (!(badB (UInt8.ofNat n))) true) = true := by kernel_rfl
  have h2 := nat_all hall b.toNat_lt
  rw [show UInt8.ofNat b.toNat = b from by simp] at h2
  rcases h1 with h1 | h1
  · rw [h1, cond_true, cond_true] at h2; simpa using h2
  · rw [h1] at h2 ⊢; decide
theorem next_num (m : Nat) {s sg D : Str} (h : Num s sg D []) (hs : s.length ≤ 4000) (hm : 20100 < m) {n : Nat} (hD : capf 1000000000000 D 0 = n) (hn : n ≤ 999999) :
    token_scanner_next m s 0 = some (TToken.mk 10 [] (cond (sg == []) (1000 * (n : Int)) (-(1000 * (n : Int)))) [] true, (s.length : Int)) := by
  obtain ⟨v1, v2, v3⟩ := val_1 m h hs (by omega) hD hn
  have hl := h.len
  have h0 : 0 < s.length := by have := List.length_pos_iff.2 h.ne; rw [List.length_nil] at hl; omega
  have hb : isd s[0] = true ∨ s[0] = 45 := by
    obtain ⟨b, D', hDe, hb⟩ := h.head
    have e := h.eq
    rcases h.sg with hs | hs
    · left
      have : s[0]? = some b := by rw [e, hs, hDe]; rfl
      rw [List.getElem?_eq_getElem h0] at this
      rw [Option.some.inj this]; exact hb
    · right
      have : s[0]? = some 45 := by rw [e, hs]; rfl
      rw [List.getElem?_eq_getElem h0] at this
      exact Option.some.inj this
  have hall : ((List.range 256).all fun n => cond (cond (isd (UInt8.ofNat n)) true (UInt8.ofNat n == 45)) (!(token_space (n : Int)) && (!((n : Int) == 34) && (!((n : Int) == 39) && !((n : Int) == 35)))) true) = true := by kernel_rfl
  have h2 := nat_all hall (s[0]).toNat_lt
  rw [show UInt8.ofNat (s[0]).toNat = s[0] from by simp] at h2
  have h3 : cond (isd s[0]) true (s[0] == 45) = true := by
    rcases hb with hb | hb
    · rw [hb]; rfl
    · rw [hb]; rfl
  rw [h3, cond_true, Bool.and_eq_true, Bool.and_eq_true, Bool.and_eq_true] at h2
  obtain ⟨g1, g2, g3, g4⟩ := h2
  have hsp : tst spc1 s 0 = false := by rw [tst_at h0]; simpa [spc1] using g1
  have hpa := pk_at h0 (-1)
  have hesc1 : token_scanner_escape s 0 1 = some (esc s (0 + 1)) := esc_t s 0 1 (by omega)
  have k0 : token_scanner_peek s 0 0 = some (pk s 0 (-1)) := pk0 s 0 (by omega)
  have k1 : token_scanner_peek s 0 1 = some (pk s (0 + 1) (-1)) := pk1 s 0 (by omega)
  have kn : token_scanner_number s 0 = some (numAt s 0) := number_ok s (by omega)
  unfold token_scanner_next
  rw [k0, Option.bind_some, chk_pos ⟨by omega, by unfold ln; omega⟩, space_t, hsp, cond_false, hpa, show (((s[0].toNat : Nat) : Int) == 34) = false from by simpa using g2, show (((s[0].toNat : Nat) : Int) == 39) = false from by simpa using g3, cond_false, cond_false,
    show (((s[0].toNat : Nat) : Int) == 35) = false from by simpa using g4, k1, hesc1, hash_t _ _ _ _ _ _ (letter_t s (0 + 1)), cond_false, cond_false, kn, Option.bind_some, h.start, cond_true]
  unfold token_scanner_numeric
  have hfig : token_scanner_figures m s 0 = some (true, (s.length : Int)) := by rw [end_t m s (by omega) (by omega), v2]
  have hsub : sub s 0 (s.length : Int) = s := by unfold sub; simp
  rw [hfig, Option.bind_some]
  dsimp only
  rw [chk_pos ⟨by omega, by omega, by unfold ln; omega⟩, hsub, thou_t m s [] s.length v3 (by omega) (by omega), Option.bind_some]
  have hval : worth s (dA s ++ []) (3 - (([] : Str).length : Int) + expo s s.length 1048576) = cond (sg == []) (1000 * (n : Int)) (-(1000 * (n : Int))) := by
    rw [value_of m s hs (by omega) h.start (by rw [v2]) v3] at v1
    have := Option.some.inj v1
    exact (Prod.mk.inj this).1
  have hnm : nam s s.length = false := by unfold nam esc; rw [tst_end _ (Nat.le_refl _), tst_end _ (Nat.le_refl _), tst_end _ (Nat.le_refl _)]; rfl
  rw [hval, name_t s s.length (by omega), hnm, Option.bind_some, cond_false, pk0 s s.length (by omega), Option.bind_some, pk_end (Nat.le_refl _)]
  rfl
theorem tokens_num (m : Nat) {s sg D : Str} (h : Num s sg D []) (hs : s.length ≤ 500) (hm : 20100 < m) {n : Nat} (hD : capf 1000000000000 D 0 = n) (hn : n ≤ 999999) :
    token_Tokens m s = some ([TToken.mk 10 [] (cond (sg == []) (1000 * (n : Int)) (-(1000 * (n : Int)))) [] true], 0) := by
  have hcl : cleanF s = (s, 0) := by rw [cleanF_small s (by omega), clean_id s (no_bad h)]
  obtain ⟨b, j, ts, ss, R⟩ := reads m s s hcl (by omega) hm
  have hl := h.len
  have h0 : 0 < s.length := by have := List.length_pos_iff.2 h.ne; rw [List.length_nil] at hl; omega
  have h47 : at2 47 42 s 0 = false := by
    cases hx : at2 47 42 s 0 with
    | false => rfl
    | true =>
      unfold at2 at hx
      have hy : tst (isb 47) s 0 = true := by
        cases h1 : tst (isb 47) s 0 with
        | false => rw [h1] at hx; cases hx
        | true => rfl
      obtain ⟨bb, D', hDe, hb⟩ := h.head
      rw [h.eq] at hy
      rcases h.sg with hsg | hsg
      · rw [hsg, hDe] at hy
        have h1 : isb 47 bb = true := hy
        unfold isb at h1; unfold isd at hb
        rw [Bool.and_eq_true] at hb
        have := of_decide_eq_true hb.1
        have h2 : bb.toNat = 47 := by simpa using h1
        omega
      · rw [hsg] at hy; cases hy
  have hc0 : token_scanner_comments m s 0 = some ((0 : Nat) : Int) := by
    obtain ⟨k, rfl⟩ : ∃ k, m = k + 1 := ⟨m - 1, by omega⟩
    have hp : strings_HasPrefix (sub s 0 (ln s)) [47, 42] = some (at2 47 42 s 0) := hp2_at 47 42 s 0 (by omega)
    unfold token_scanner_comments
    rw [token_scanner_comments_L1, chk_pos ⟨by omega, by unfold ln; omega⟩, hp, h47, Option.bind_some, cond_false]; rfl
  have hj := R.past
  rw [hc0] at hj
  have hj0 : j = 0 := by have : ((0 : Nat) : Int) = (j : Int) := Option.some.inj hj; omega
  subst hj0
  have hT := R.toks
  have hnx := next_num m h (by omega) hm hD hn
  rw [R.t1]
  generalize hI : 0 = I at hT
  cases hT with
  | nil => omega
  | @cons _ e' j' b' t' ts' ss' g1 g2 g3 g4 g5 g6 g7 g8 g9 g10 g11 =>
    subst hI
    rw [show token_scanner_next m s ((0 : Nat) : Int) = _ from hnx] at g3
    obtain ⟨q1, q2⟩ := pair_inj g3
    have : e' = s.length := by omega
    subst this
    have hjj : j' = s.length := by omega
    subst hjj
    have hlen := g11.len
    have : ts' = [] := List.length_eq_zero_iff.1 (by omega)
    rw [this, ← q1]
theorem law_num (s sg D : Str) (n k : Nat) (hsg : sg = [] ∨ sg = [45]) (hne : D ≠ []) (hd : ∀ b ∈ D, isd b = true) (hl : D.length ≤ 6) (hD : capf 1000000000000 D 0 = n) (hn : n ≤ 999999) (hk : k ≤ 5) (x : Int) (hx : x = cond (sg == []) (n : Int) (-(n : Int)))
    (hdig : law02_digits 30000 x = some (sg ++ D)) : law02_TokenNumbers 30000 x (k : Int) = some true := by
  have hsl : sg.length ≤ 1 := by rcases hsg with h | h <;> rw [h] <;> decide
  have hxb : -999999 ≤ x ∧ x ≤ 999999 := by rw [hx]; cases sg == [] <;> simp <;> omega
  obtain ⟨d, d1, d2, d3⟩ := dig_byte k (by omega)
  have hdk : law02_digits 30000 (k : Int) = some [d] := by
    unfold law02_digits
    rw [law02_digits_r, show decide ((k : Int) < 0) = false from decide_eq_false (by omega), cond_false, tmod_pos (by omega), show (k : Int) % 10 = (k : Int) from by omega, d1, lt_eq, show decide ((k : Int) < 10) = true from decide_eq_true (by omega), cond_true]
  have hrep : sub [48, 48, 48, 48, 48] 0 (k : Int) = List.replicate k 48 := by
    unfold sub
    rw [Int.toNat_natCast]
    show (List.replicate 5 (48 : UInt8)).take (k - 0) = _
    rw [List.take_replicate, Nat.sub_zero, Nat.min_eq_left hk]
  have n1 : Num (sg ++ D) sg D [] := ⟨by simp, hsg, hne, hd, rfl⟩
  have n2 : Num (((sg ++ D) ++ [46]) ++ List.replicate k 48 ++ [48]) sg D (46 :: List.replicate (k + 1) 48) := ⟨by
    rw [List.replicate_succ']; simp, hsg, hne, hd, rfl⟩
  have n3 : Num ((((sg ++ D) ++ List.replicate k 48) ++ [101, 45]) ++ [d]) sg (D ++ List.replicate k 48) [101, 45, d] := ⟨by simp, hsg, by simp [hne], by
    intro b hb
    rcases List.mem_append.1 hb with h | h
    · exact hd b h
    · rw [List.eq_of_mem_replicate h]; rfl, rfl⟩
  have e1 : (sg ++ D).length ≤ 7 := by rw [List.length_append]; omega
  obtain ⟨v1, _, _⟩ := val_1 30000 n1 (by omega) (by decide) hD hn
  have v2 := val_2 30000 hk n2 (by simp only [List.length_append, List.length_replicate, List.length_cons, List.length_nil] at e1 ⊢; omega) (by decide) hD hn
  have v3 := val_3 30000 hk d2 d3 n3 (by simp only [List.length_append, List.length_replicate, List.length_cons, List.length_nil] at e1 ⊢; omega) (by decide) hD hn
  have vt := tokens_num 30000 n1 (by omega) (by decide) hD hn
  have hw : w64 (1000 * x) = cond (sg == []) (1000 * (n : Int)) (-(1000 * (n : Int))) := by
    rw [w64_id (by omega) (by omega), hx]
    cases sg == []
    · rw [cond_false, cond_false]; omega
    · rw [cond_true, cond_true]
  unfold law02_TokenNumbers
  rw [show decide (x < (-999999)) = false from decide_eq_false (by omega), show decide (999999 < x) = false from decide_eq_false (by omega), lt_eq, cond_false, cond_false, show decide ((k : Int) < 0) = false from decide_eq_false (by omega), show decide (5 < (k : Int)) = false from decide_eq_false (by omega), lt_eq, cond_false, cond_false,
    hdig, Option.bind_some, chk_pos ⟨by omega, by show (k : Int) ≤ 5; omega⟩, v1, Option.bind_some, hrep]
  rw [chk_pos (by unfold ln; simp only [List.length_cons, List.length_nil]; omega)]
  rw [chk_pos (by unfold ln; simp only [List.length_append, List.length_replicate, List.length_cons, List.length_nil] at e1 ⊢; omega), lt_eq]
  rw [chk_pos (by unfold ln; simp only [List.length_append, List.length_replicate, List.length_cons, List.length_nil] at e1 ⊢; omega), v2, Option.bind_some]
  rw [chk_pos (by unfold ln; simp only [List.length_append, List.length_replicate, List.length_cons, List.length_nil] at e1 ⊢; omega), lt_eq]
  rw [chk_pos (by unfold ln; simp only [List.length_append, List.length_replicate, List.length_cons, List.length_nil] at e1 ⊢; omega), hdk, Option.bind_some]
  rw [chk_pos (by unfold ln; simp only [List.length_append, List.length_replicate, List.length_cons, List.length_nil] at e1 ⊢; omega), v3, Option.bind_some, vt, Option.bind_some]
  generalize cond (sg == []) (1000 * (n : Int)) (-(1000 * (n : Int))) = W at hw ⊢
  dsimp only
  rw [lt_eq, show (cond (cond ((0 : Int) != 0) true ((0 : Int) != 0)) true ((0 : Int) != 0)) = false from rfl, cond_false, lt_eq, show (cond ((0 : Int) != 0) true (ln [TToken.mk 10 [] W [] true] != 1)) = false from rfl, cond_false, hw, lt_eq, lt_eq, lt_eq]
  rw [show (W == W) = true from beq_self_eq_true W]
  rw [chk_pos (fun _ => ⟨by decide, by show (0 : Int) < 1; decide⟩)]
  rw [show gi [TToken.mk 10 [] W [] true] (0 : Int) = TToken.mk 10 [] W [] true from rfl]
  dsimp only
  rw [show (W == W) = true from beq_self_eq_true W, alive_ok]
  rfl
theorem plain_TokenNumbers (n zeros : Int) {p q : Prop} (_ : p) (_ : q) : law02_TokenNumbers 30000 n zeros = some true := by
  by_cases hin : -999999 ≤ n ∧ n ≤ 999999 ∧ 0 ≤ zeros ∧ zeros ≤ 5
  · obtain ⟨i1, i2, i3, i4⟩ := hin
    obtain ⟨k, rfl⟩ : ∃ k : Nat, zeros = (k : Int) := ⟨zeros.toNat, by omega⟩
    by_cases h0 : n < 0
    · obtain ⟨D, d1, d2, d3, d4, d5⟩ := digits_nat 30000 5 n.natAbs (by show _ < 1000000; omega) (by decide)
      refine law_num (sg := [45]) (D := D) (s := []) n.natAbs k (Or.inr rfl) d2 d3 d4 d5 (by omega) (by omega) n (by show n = -((n.natAbs : Nat) : Int); omega) ?_
      have d1' : law02_digits_r 30000 29999 ((n.natAbs : Nat) : Int) = some D := dig_more 30000 (by decide) d1 (by decide)
      unfold law02_digits
      rw [show (30000 : Nat) = 29999 + 1 from rfl, law02_digits_r, show decide (n < 0) = true from decide_eq_true h0, cond_true, w64_id (by omega) (by omega), show 0 - n = ((n.natAbs : Nat) : Int) from by omega]
      rw [show law02_digits_r (29999 + 1) 29999 ((n.natAbs : Nat) : Int) = some D from d1', Option.bind_some, chk_pos (by unfold ln; simp only [List.length_cons, List.length_nil]; omega)]
    · obtain ⟨D, d1, d2, d3, d4, d5⟩ := digits_nat 30000 5 n.natAbs (by show _ < 1000000; omega) (by decide)
      refine law_num (sg := []) (D := D) (s := []) n.natAbs k (Or.inl rfl) d2 d3 d4 d5 (by omega) (by omega) n (by show n = ((n.natAbs : Nat) : Int); omega) ?_
      have d1' : law02_digits_r 30000 30000 ((n.natAbs : Nat) : Int) = some D := dig_more 30000 (by decide) d1 (by decide)
      unfold law02_digits
      rw [show n = ((n.natAbs : Nat) : Int) from by omega]
      exact d1'
  · unfold law02_TokenNumbers
    have hc : cond (cond (cond (decide (n < (-999999))) true (decide (999999 < n))) true (decide (zeros < 0))) true (decide (5 < zeros)) = true := by
      by_cases a : n < -999999
      · rw [decide_eq_true a]; rfl
      · by_cases b : 999999 < n
        · rw [decide_eq_true b]; cases decide (n < (-999999)) <;> rfl
        · by_cases c : zeros < 0
          · rw [decide_eq_true c]; cases decide (n < (-999999)) <;> cases decide (999999 < n) <;> rfl
          · have : 5 < zeros := by omega
            rw [decide_eq_true this]; cases decide (n < (-999999)) <;> cases decide (999999 < n) <;> cases decide (zeros < 0) <;> rfl
    rw [lt_eq, lt_eq, hc, cond_true, alive_ok]
    rfl
end Go.Proofs.YtfancfogkhclfaaGreatDoor

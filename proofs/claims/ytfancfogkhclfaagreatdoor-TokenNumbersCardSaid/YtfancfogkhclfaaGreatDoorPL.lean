/-
  The shape of each token: numbers, and all.
-/
import Derived.Test.YtfancfogkhclfaaGreatDoorPK
set_option linter.unusedVariables false
namespace Go.Proofs.YtfancfogkhclfaaGreatDoor
open Go Go.V
set_option maxRecDepth 100000
theorem numEnd_whole {u : Str} (h : (numEnd u).2 = true) : (numEnd u).1 = yA u := by
  have hy := endM_eq u (yA u) rfl
  unfold numEnd at h ⊢
  unfold endE at h ⊢
  dsimp only at h ⊢
  have hM : (endM u).2 = true := by
    cases h1 : tst iee u (endM u).1 with
    | false => rw [h1, cond_false] at h; exact h
    | true =>
      rw [h1, cond_true] at h
      cases h2 : tst isd u (cond (tst isg u ((endM u).1 + 1)) ((endM u).1 + 2) ((endM u).1 + 1)) with
      | false => rw [h2, cond_false] at h; exact h
      | true => rw [h2, cond_true] at h; cases h
  have hM1 : (endM u).1 = yA u := by
    rw [hy] at hM ⊢
    cases h3 : cond (tst (isb 46) u (yA u)) (tst isd u (yA u + 1)) false with
    | false => rw [cond_false]
    | true => rw [h3, cond_true] at hM; cases hM
  cases h1 : tst iee u (endM u).1 with
  | false => rw [cond_false]; exact hM1
  | true =>
    rw [h1, cond_true] at h
    rw [cond_true]
    cases h2 : tst isd u (cond (tst isg u ((endM u).1 + 1)) ((endM u).1 + 2) ((endM u).1 + 1)) with
    | false => rw [cond_false]; exact hM1
    | true => rw [h2, cond_true] at h; cases h
/-- What stands ahead of the end of the digits is a sign or a digit. -/
theorem sd_at (u : Str) (k : Nat) (hk : k < yA u) : tst isd u k = true ∨ tst isg u k = true := by
  have hsk : skipS u 0 = 1 ∧ tst isg u 0 = true ∨ skipS u 0 = 0 := by
    unfold skipS
    cases h : tst isg u 0 with
    | true => exact Or.inl ⟨rfl, rfl⟩
    | false => exact Or.inr rfl
  by_cases h0 : k < skipS u 0
  · rcases hsk with ⟨h1, h2⟩ | h1
    · have : k = 0 := by omega
      subst this; exact Or.inr h2
    · omega
  · left
    have hd := dig_sub u (skipS u 0)
    unfold yA dA at hk
    have hlt : k - skipS u 0 < (digS u (skipS u 0)).length := by omega
    have hmem := List.getElem_mem hlt
    have hdig := dig_all u _ _ hmem
    have hget : (digS u (skipS u 0))[k - skipS u 0]? = u[k]? := by
      rw [hd, List.getElem?_take, if_pos hlt, List.getElem?_drop, show skipS u 0 + (k - skipS u 0) = k from by omega]
    rw [List.getElem?_eq_getElem hlt] at hget
    unfold tst
    rw [← hget]
    exact hdig
theorem not_sd {p : UInt8 → Bool} (hp : ∀ b, p b = true → isd b = false ∧ isg b = false) {t : Str} (h : ∀ k, k < t.length → tst isd t k = true ∨ tst isg t k = true) (k : Nat) : tst p t k = false := by
  cases h1 : tst p t k with
  | false => rfl
  | true =>
    obtain ⟨hk, h2⟩ := tst_some h1
    obtain ⟨a, b⟩ := hp _ h2
    rcases h k hk with h3 | h3
    · rw [tst_at hk, a] at h3; cases h3
    · rw [tst_at hk, b] at h3; cases h3
theorem p46 : ∀ b, isb 46 b = true → isd b = false ∧ isg b = false := by
  intro b h
  have : b.toNat = 46 := by simpa [isb] using h
  unfold isd isg isb
  rw [this]; exact ⟨rfl, rfl⟩
theorem pee : ∀ b, iee b = true → isd b = false ∧ isg b = false := by
  intro b h
  unfold iee isb at h
  have : b.toNat = 101 ∨ b.toNat = 69 := by simpa using h
  unfold isd isg isb
  rcases this with h | h <;> rw [h] <;> exact ⟨rfl, rfl⟩
theorem worth_bd (s D : Str) (c : Int) : -1000000000000 ≤ worth s D c ∧ worth s D c ≤ 1000000000000 := by
  have h1 := capf_le 1000000000000 (D.take ((D.length : Int) + c).toNat) 0 (by omega)
  have h2 := mulT_le c _ h1
  unfold worth
  cases tst (isb 45) s 0
  · rw [cond_false]; omega
  · rw [cond_true]; omega
theorem mulT3 (v : Nat) : mulT 3 v % 1000 = 0 := by
  unfold mulT
  split
  · rename_i h
    rcases h with h | h
    · omega
    · rw [h]
  · have : v * 10 ^ (3 : Int).toNat = v * 1000 := rfl
    rw [this]
    omega
theorem worth3 (s D : Str) : Int.tmod (worth s D 3) 1000 = 0 := by
  unfold worth
  have h := mulT3 (capf 1000000000000 (D.take ((D.length : Int) + 3).toNat) 0)
  generalize mulT 3 (capf 1000000000000 (D.take ((D.length : Int) + 3).toNat) 0) = v at h
  have h2 : Int.tmod (v : Int) 1000 = 0 := by rw [tmod_pos (by omega)]; omega
  cases tst (isb 45) s 0
  · exact h2
  · rw [cond_true, Int.neg_tmod, h2]; rfl
theorem good_numeric (m : Nat) (s : Str) (hs : s.length ≤ 4000) (hm : 4020 < m) (a : Nat) (ha : a ≤ s.length) (hn : numAt s a = true) {t : TToken} {e : Int} (h : token_scanner_numeric m s (a : Int) = some (t, e)) : Good t ∧ t.Kind ≠ 13 := by
  obtain ⟨h1, h2, D2, x, hN⟩ := num_sub s a ha hn
  have hwh : (numEndA s a).2 = true → D2 = [] ∧ tst iee (sub s (a : Int) ((numEndA s a).1 : Int)) x = false := by
    intro hw
    rw [numEndA_drop] at hw hN
    have hy := numEnd_whole (u := s.drop a) hw
    have hu : sub s (a : Int) (((a + (numEnd (s.drop a)).1, (numEnd (s.drop a)).2) : Nat × Bool).1 : Int) = (s.drop a).take (numEnd (s.drop a)).1 := by
      show sub s (a : Int) ((a + (numEnd (s.drop a)).1 : Nat) : Int) = _
      unfold sub
      rw [Int.toNat_natCast, Int.toNat_natCast, Nat.add_sub_cancel_left]
    rw [numEndA_drop, hu, hy]
    rw [hu, hy] at hN
    have hall : ∀ k, k < ((s.drop a).take (yA (s.drop a))).length → tst isd ((s.drop a).take (yA (s.drop a))) k = true ∨ tst isg ((s.drop a).take (yA (s.drop a))) k = true := by
      intro k hk
      have hk2 : k < yA (s.drop a) := by rw [List.length_take] at hk; omega
      unfold tst
      rw [List.getElem?_take, if_pos hk2]
      exact sd_at (s.drop a) k hk2
    refine ⟨?_, not_sd pee hall x⟩
    rcases hN.dot with ⟨d1, _⟩ | ⟨_, d2, _⟩
    · rw [not_sd p46 hall] at d1; cases d1
    · exact d2
  unfold token_scanner_numeric at h
  rw [endA_t m s (by omega) (by omega) a ha, Option.bind_some] at h
  generalize hE : (numEndA s a).1 = E at h h1 h2 hN hwh
  generalize (numEndA s a).2 = wh at h hwh
  have hls : (sub s (a : Int) (E : Int)).length ≤ 4000 := by
    unfold sub; rw [List.length_take, List.length_drop]; omega
  dsimp only at h
  rw [chk_pos ⟨by omega, by omega, by unfold ln; omega⟩, thou_t m _ D2 x hN (by omega) (by omega), Option.bind_some] at h
  have hb := worth_bd (sub s (a : Int) (E : Int)) (dA (sub s (a : Int) (E : Int)) ++ D2) (3 - D2.length + expo (sub s (a : Int) (E : Int)) x 1048576)
  have hz : wh = true → Int.tmod (worth (sub s (a : Int) (E : Int)) (dA (sub s (a : Int) (E : Int)) ++ D2) (3 - D2.length + expo (sub s (a : Int) (E : Int)) x 1048576)) 1000 = 0 := by
    intro hw
    obtain ⟨g1, g2⟩ := hwh hw
    have : (3 - (D2.length : Int) + expo (sub s (a : Int) (E : Int)) x 1048576) = 3 := by
      unfold expo
      rw [g2, cond_false, g1]; rfl
    rw [this]
    exact worth3 _ _
  generalize worth (sub s (a : Int) (E : Int)) _ _ = W at h hb hz
  rw [name_t s E (by omega), Option.bind_some] at h
  cases hnm : nam s E with
  | true =>
    have hEl : E < s.length := by rcases nam_let hnm with h | h; exact tst_lt h; exact (esc_is h).1
    rw [hnm, cond_true] at h
    obtain ⟨z, z1, h⟩ := bind_some' h
    obtain ⟨⟨w, j⟩, w1, z1⟩ := bind_some' z1
    have hw := word_ne m s (by omega) (by omega) E hEl (nam_let hnm) w1
    have hz1 := Option.some.inj z1
    subst hz1
    obtain ⟨q1, _⟩ := pair_inj h
    subst q1
    exact ⟨good_num (Or.inr (Or.inr ⟨rfl, hw⟩)) hb.1 hb.2 hz, by show (12 : Int) ≠ 13; decide⟩
  | false =>
    rw [hnm, cond_false, pk0 s E (by omega), Option.bind_some] at h
    cases h37 : (pk s E (-1) == 37) with
    | true =>
      rw [h37, cond_true, Option.bind_some] at h
      obtain ⟨q1, _⟩ := pair_inj h
      subst q1
      exact ⟨good_num (Or.inr (Or.inl ⟨rfl, rfl, rfl⟩)) hb.1 hb.2 (fun h => by cases h), by show (11 : Int) ≠ 13; decide⟩
    | false =>
      rw [h37, cond_false, Option.bind_some] at h
      obtain ⟨q1, _⟩ := pair_inj h
      subst q1
      exact ⟨good_num (Or.inl ⟨rfl, rfl⟩) hb.1 hb.2 hz, by show (10 : Int) ≠ 13; decide⟩
theorem mark_kinds : ((List.range 256).all fun n => cond (decide (0 ≤ strings_IndexByte [58, 59, 44, 91, 93, 40, 41, 123, 125] (wu8 (n : Int)))) ((law02_shaped (TToken.mk (wu8 (16 + (wu8 (strings_IndexByte [58, 59, 44, 91, 93, 40, 41, 123, 125] (wu8 (n : Int)))))) [] 0 [] false) == some true) && (wu8 (16 + (wu8 (strings_IndexByte [58, 59, 44, 91, 93, 40, 41, 123, 125] (wu8 (n : Int))))) != 13)) true) = true := by kernel_rfl
theorem fst_hi (n : Nat) (h : 128 ≤ n) : token_first (n : Int) = true := by
  unfold token_first
  rw [lt_eq, lt_eq, lt_eq, show decide (128 ≤ (n : Int)) = true from decide_eq_true (by omega)]
  cases cond (cond (cond (token_within (ibit .or .i64 (n : Int) 32) 97 122) (decide ((n : Int) < 128)) false) (decide (64 < (n : Int))) false) true ((n : Int) == 95) <;> rfl
theorem num_dig {s : Str} {i : Nat} (h : tst isd s i = true) : numAt s i = true := by
  obtain ⟨hi, h2⟩ := tst_some h
  have hg : tst isg s i = false := by
    cases hg : tst isg s i with
    | false => rfl
    | true =>
      obtain ⟨_, h3⟩ := tst_some hg
      unfold isg isb at h3
      unfold isd at h2
      have h4 : s[i].toNat = 43 ∨ s[i].toNat = 45 := by simpa using h3
      have h5 := Bool.and_eq_true _ _ ▸ h2
      have := of_decide_eq_true h5.1
      omega
  have h46 : tst (isb 46) s i = false := by
    cases h46 : tst (isb 46) s i with
    | false => rfl
    | true =>
      obtain ⟨_, h3⟩ := tst_some h46
      have := (p46 _ h3).1
      rw [h2] at this; cases this
  unfold numAt skipS
  dsimp only
  rw [hg, cond_false, h46, cond_false]
  exact h
theorem good_next (m : Nat) (s : Str) (hs : s.length ≤ 4000) (hm : 20100 < m) (i : Nat) (hi : i < s.length) {t : TToken} {e : Nat} (h : token_scanner_next m s (i : Int) = some (t, (e : Int))) :
    Good t ∧ (t.Kind = 13 → tst spc1 s i = true ∧ tst spc1 s e = false) := by
  have hbl := (s[i]).toNat_lt
  have hpa := pk_at hi (-1)
  have cut : ∀ {x : Option (TToken × Int)}, (Option.bind x fun y => some (y.1, y.2)) = x := fun {x} => by cases x <;> rfl
  have no : ∀ {P : Prop}, Good t ∧ t.Kind ≠ 13 → Good t ∧ (t.Kind = 13 → P) := fun h => ⟨h.1, fun h2 => absurd h2 h.2⟩
  unfold token_scanner_next at h
  rw [pk0 s i (by omega), Option.bind_some, chk_pos ⟨by omega, by unfold ln; omega⟩, space_t] at h
  cases hst : tst spc1 s i with
  | true =>
    obtain ⟨j, w1, w2, w3, w4, w5, w6⟩ := whiles_eq m s (by omega) (by omega) i (by omega)
    rw [hst, cond_true, w1, Option.bind_some] at h
    obtain ⟨q1, q2⟩ := pair_inj h
    have : j = e := by omega
    subst this q1
    exact ⟨rfl, fun _ => ⟨rfl, w5⟩⟩
  | false =>
    rw [hst, cond_false, hpa] at h
    cases hq : cond (((s[i].toNat : Nat) : Int) == 34) true (((s[i].toNat : Nat) : Int) == 39) with
    | true =>
      rw [hq, cond_true, cut] at h
      exact no (good_quoted m s _ h)
    | false =>
      have hesc1 : token_scanner_escape s (i : Int) 1 = some (esc s (i + 1)) := esc_t s i 1 (by omega)
      have hnam1 : token_scanner_name s (i : Int) 1 = some (nam s (i + 1)) := nam_t s i 1 (by omega)
      rw [hq, cond_false, pk1 s i (by omega), hesc1, hash_t _ _ _ _ _ _ (letter_t s (i + 1))] at h
      cases hh : cond (((s[i].toNat : Nat) : Int) == 35) (cond (tst let1 s (i + 1)) true (esc s (i + 1))) false with
      | true =>
        rw [hh, cond_true, hnam1, Option.bind_some, w64_ix (by omega)] at h
        obtain ⟨⟨w, j⟩, w1, h⟩ := bind_some' h
        have hl : tst let1 s (i + 1) = true ∨ esc s (i + 1) = true := by
          cases h1 : tst let1 s (i + 1) with
          | true => exact Or.inl rfl
          | false =>
            rw [h1, cond_false] at hh
            cases h2 : (((s[i].toNat : Nat) : Int) == 35) with
            | true => rw [h2, cond_true] at hh; exact Or.inr hh
            | false => rw [h2, cond_false] at hh; cases hh
        have hl1 : i + 1 < s.length := by rcases hl with h | h; exact tst_lt h; exact (esc_is h).1
        have hw := word_ne m s (by omega) (by omega) (i + 1) hl1 hl w1
        obtain ⟨q1, _⟩ := pair_inj h
        subst q1
        exact no ⟨good_hash hw _, by show (4 : Int) ≠ 13; decide⟩
      | false =>
        rw [hh, cond_false, numberA_t s (by omega) i (by omega), Option.bind_some] at h
        cases hn : numAt s i with
        | true =>
          rw [hn, cond_true, cut] at h
          exact no (good_numeric m s hs (by omega) i (by omega) hn h)
        | false =>
          rw [hn, cond_false] at h
          obtain ⟨b1, _, h⟩ := bind_some' h
          cases b1 with
          | true =>
            rw [cond_true] at h
            obtain ⟨q1, _⟩ := pair_inj h
            subst q1
            exact no ⟨rfl, by decide⟩
          | false =>
            rw [cond_false] at h
            obtain ⟨b2, _, h⟩ := bind_some' h
            cases b2 with
            | true =>
              rw [cond_true] at h
              obtain ⟨q1, _⟩ := pair_inj h
              subst q1
              exact no ⟨rfl, by decide⟩
            | false =>
              rw [cond_false, hnam1, at_b] at h
              cases hat : cond (((s[i].toNat : Nat) : Int) == 64) (nam s (i + 1)) false with
              | true =>
                have hnm : nam s (i + 1) = true := by
                  cases h2 : (((s[i].toNat : Nat) : Int) == 64) with
                  | true => rw [h2, cond_true] at hat; exact hat
                  | false => rw [h2, cond_false] at hat; cases hat
                rw [hat, cond_true, w64_ix (by omega)] at h
                obtain ⟨⟨w, j⟩, w1, h⟩ := bind_some' h
                have hl1 : i + 1 < s.length := by rcases nam_let hnm with h | h; exact tst_lt h; exact (esc_is h).1
                have hw := word_ne m s (by omega) (by omega) (i + 1) hl1 (nam_let hnm) w1
                obtain ⟨q1, _⟩ := pair_inj h
                subst q1
                exact no ⟨good_word (Or.inr (Or.inr rfl)) hw, by show (3 : Int) ≠ 13; decide⟩
              | false =>
                rw [hat, cond_false, name_t s i (by omega), Option.bind_some] at h
                cases hnm : nam s i with
                | true =>
                  rw [hnm, cond_true, cut] at h
                  exact no (good_ident m s (by omega) (by omega) i hi hnm h)
                | false =>
                  rw [hnm, cond_false, lt_eq] at h
                  have hmk := nat_all mark_kinds hbl
                  cases hm2 : decide (0 ≤ strings_IndexByte [58, 59, 44, 91, 93, 40, 41, 123, 125] (wu8 ((s[i].toNat : Nat) : Int))) with
                  | true =>
                    rw [hm2, cond_true] at h hmk
                    obtain ⟨q1, _⟩ := pair_inj h
                    rw [Bool.and_eq_true] at hmk
                    subst q1
                    exact no ⟨eq_of_beq hmk.1, bne_iff_ne.1 hmk.2⟩
                  | false =>
                    rw [hm2, cond_false] at h
                    obtain ⟨_, h⟩ := chkE h
                    have hsb : sub (sub s (i : Int) (ln s)) 0 1 = [s[i]] := by
                      unfold sub ln
                      rw [Int.toNat_natCast, Int.toNat_natCast, List.drop_eq_getElem_cons hi]
                      obtain ⟨k, hk⟩ : ∃ k, s.length - i = k + 1 := ⟨s.length - i - 1, by omega⟩
                      rw [hk]; rfl
                    rw [hsb] at h
                    obtain ⟨q1, _⟩ := pair_inj h
                    subst q1
                    refine no ⟨good_delim ?_, by show (9 : Int) ≠ 13; decide⟩
                    have a1 : token_space ((s[i].toNat : Nat) : Int) = false := by
                      rw [tst_at hi] at hst; exact hst
                    have a2 : (s[i].toNat == 34) = false := by
                      cases h2 : (s[i].toNat == 34) with
                      | false => rfl
                      | true => rw [show (((s[i].toNat : Nat) : Int) == 34) = true from by rw [eq_of_beq h2]; rfl] at hq; cases hq
                    have a3 : (s[i].toNat == 39) = false := by
                      cases h2 : (s[i].toNat == 39) with
                      | false => rfl
                      | true =>
                        rw [show (((s[i].toNat : Nat) : Int) == 39) = true from by rw [eq_of_beq h2]; rfl] at hq
                        cases h3 : (((s[i].toNat : Nat) : Int) == 34) <;> rw [h3] at hq <;> cases hq
                    have a4 : (decide (48 ≤ s[i].toNat) && decide (s[i].toNat ≤ 57)) = false := by
                      cases h2 : (decide (48 ≤ s[i].toNat) && decide (s[i].toNat ≤ 57)) with
                      | false => rfl
                      | true =>
                        have : tst isd s i = true := by rw [tst_at hi]; exact h2
                        rw [num_dig this] at hn; cases hn
                    have a5 : s[i].toNat < 128 := by
                      by_cases h2 : s[i].toNat < 128
                      · exact h2
                      · have hf : tst fst1 s i = true := by rw [tst_at hi]; exact fst_hi _ (by omega)
                        have h45 : tst (isb 45) s i = false := by
                          rw [tst_at hi]; unfold isb
                          exact beq_eq_false_iff_ne.2 (by omega)
                        unfold nam at hnm
                        rw [h45, hf] at hnm; cases hnm
                    unfold okB
                    rw [a1, a2, a3, a4, decide_eq_true a5]; rfl
end Go.Proofs.YtfancfogkhclfaaGreatDoor

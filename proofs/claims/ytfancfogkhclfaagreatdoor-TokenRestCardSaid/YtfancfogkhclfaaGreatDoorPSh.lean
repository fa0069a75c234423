/-
  What is read of a text's rest is what is read of the text from there on.
-/
import Derived.Test.YtfancfogkhclfaaGreatDoorPZ
set_option linter.unusedVariables false
namespace Go.Proofs.YtfancfogkhclfaaGreatDoor
open Go Go.V
set_option maxRecDepth 100000
theorem pk_drop (s : Str) (k i : Nat) (d : Int) : pk s (k + i) d = pk (s.drop k) i d := by
  unfold pk; rw [List.getElem?_drop]
theorem esc_drop (s : Str) (k i : Nat) : esc s (k + i) = esc (s.drop k) i := by
  unfold esc
  rw [tst_drop, show k + i + 1 = k + (i + 1) from rfl, tst_drop]
theorem nam_drop (s : Str) (k i : Nat) : nam s (k + i) = nam (s.drop k) i := by
  unfold nam
  rw [show k + i + 1 = k + (i + 1) from rfl, tst_drop (isb 45) s k i, tst_drop fst1 s k i, tst_drop (isb 45) s k (i + 1), tst_drop fst1 s k (i + 1), esc_drop s k (i + 1), esc_drop s k i]
theorem at2_drop (a b : Nat) (s : Str) (k i : Nat) : at2 a b s (k + i) = at2 a b (s.drop k) i := by
  unfold at2
  rw [tst_drop, show k + i + 1 = k + (i + 1) from rfl, tst_drop]
theorem hexI_drop (s : Str) (k i : Nat) : hexI s (k + i) = hexI (s.drop k) i := by
  unfold hexI; rw [pk_drop]
theorem hexR_drop (s : Str) (k : Nat) : ∀ (c n a : Nat), hexR s c n (k + a) = ((hexR (s.drop k) c n a).1, k + (hexR (s.drop k) c n a).2)
  | 0, n, a => rfl
  | c + 1, n, a => by
    unfold hexR
    rw [hexI_drop]
    by_cases h : hexI (s.drop k) a < 0
    · rw [if_pos h, if_pos h]
    · rw [if_neg h, if_neg h]
      exact hexR_drop s k c _ (a + 1)
theorem sub_drop (s : Str) (k i e : Nat) : sub s ((k + i : Nat) : Int) ((k + e : Nat) : Int) = sub (s.drop k) (i : Int) (e : Int) := by
  unfold sub
  rw [Int.toNat_natCast, Int.toNat_natCast, Int.toNat_natCast, Int.toNat_natCast, List.drop_drop, show k + e - (k + i) = e - i from by omega]
theorem bind_some' {α β : Type} {x : Option α} {f : α → Option β} {r : β} (h : Option.bind x f = some r) : ∃ y, x = some y ∧ f y = some r := by
  cases x with
  | none => cases h
  | some y => exact ⟨y, rfl, h⟩
theorem sh_while (m : Nat) (s : Str) (k : Nat) (hs : s.length < 100000) (hk : k ≤ s.length) : ∀ (kk i j : Nat), i ≤ (s.drop k).length → token_scanner_while_L1 m (s.drop k) kk (i : Int) = some (j : Int) → token_scanner_while_L1 m s kk ((k + i : Nat) : Int) = some ((k + j : Nat) : Int) := by
  have hul : (s.drop k).length = s.length - k := List.length_drop
  intro kk
  induction kk with
  | zero => intro i j hi h; cases h
  | succ kk ih =>
    intro i j hi h
    rw [token_scanner_while_L1, pk0 _ i (by omega), Option.bind_some, space_t] at h
    rw [token_scanner_while_L1, pk0 _ (k + i) (by omega), Option.bind_some, space_t, tst_drop]
    cases ht : tst spc1 (s.drop k) i with
    | false =>
      rw [ht, cond_false] at h
      rw [cond_false]
      injection h with h
      have : i = j := by omega
      rw [this]
    | true =>
      have hl := tst_lt ht
      rw [ht, cond_true, w64_ix (by omega)] at h
      rw [cond_true, w64_ix (by omega)]
      exact ih (i + 1) j hl h
theorem sh_escaped (m : Nat) (s : Str) (k : Nat) (hs : s.length < 100000) (hk : k ≤ s.length) (hm : 10 < m) (i j : Nat) (hi : i < (s.drop k).length) (b b' : List Int) (h : token_scanner_escaped m (s.drop k) (i : Int) b = some (b', (j : Int))) :
    token_scanner_escaped m s ((k + i : Nat) : Int) b = some (b', ((k + j : Nat) : Int)) := by
  have hul : (s.drop k).length = s.length - k := List.length_drop
  unfold token_scanner_escaped at h ⊢
  rw [w64_ix (by omega), pk0 _ (i + 1) (by omega), Option.bind_some, show token_hex (pk (s.drop k) (i + 1) (-1)) = hexI (s.drop k) (i + 1) from rfl] at h
  rw [w64_ix (by omega), show k + i + 1 = k + (i + 1) from rfl, pk0 _ (k + (i + 1)) (by omega), Option.bind_some, pk_drop, show token_hex (pk (s.drop k) (i + 1) (-1)) = hexI (s.drop k) (i + 1) from rfl]
  cases h1 : (pk (s.drop k) (i + 1) (-1) == -1) with
  | true =>
    rw [h1, cond_true] at h
    rw [cond_true]
    obtain ⟨y, y1, y2⟩ := bind_some' h
    obtain ⟨y2, y3⟩ := Prod.mk.inj (Option.some.inj y2)
    rw [y1, Option.bind_some, y2]
    have y4 : ((i + 1 : Nat) : Int) = (j : Int) := y3
    have hij : i + 1 = j := Int.ofNat.inj y4
    rw [← hij]
  | false =>
    rw [h1, cond_false] at h
    rw [cond_false]
    have hil : i + 1 < (s.drop k).length := by
      by_cases hq : i + 1 < (s.drop k).length
      · exact hq
      · rw [pk_end (by omega)] at h1; cases h1
    cases h2 : decide (hexI (s.drop k) (i + 1) < 0) with
    | true =>
      rw [h2, cond_true] at h
      rw [cond_true]
      obtain ⟨hc, h⟩ := chkE h
      rw [lt_eq, w64_ix (by omega)] at h
      rw [chk_pos hc, lt_eq, w64_ix (by omega)]
      obtain ⟨h3, h4⟩ := Prod.mk.inj (Option.some.inj h)
      have h5 : ((i + 1 + 1 : Nat) : Int) = (j : Int) := h4
      have hij : i + 1 + 1 = j := Int.ofNat.inj h5
      rw [h3, ← hij]; rfl
    | false =>
      rw [h2, cond_false] at h
      rw [cond_false]
      have hb16 : (0 + 1) * 16 ^ 6 ≤ 16777216 := by decide
      have l1 := hexL_t m (s.drop k) (by omega) 6 m 0 (i + 1) (by decide) (by omega) (by omega) hb16
      have l2 := hexL_t m s (by omega) 6 m 0 (k + (i + 1)) (by decide) (by omega) (by omega) hb16
      have hok := hexR_ok (s.drop k) 6 0 (i + 1) (by omega) hb16
      have z6 : ((6 - 6 : Nat) : Int) = ((0 : Nat) : Int) := rfl
      have z0 : ((0 : Nat) : Int) = 0 := rfl
      rw [z6, z0] at l1 l2
      rw [hexR_drop] at l2
      rw [l1] at h
      rw [l2]
      generalize hexR (s.drop k) 6 0 (i + 1) = R at hok h
      obtain ⟨n, a⟩ := R
      obtain ⟨hn, ha1, ha2⟩ := hok
      dsimp only at hn ha1 ha2 h ⊢
      rw [Option.bind_some] at h ⊢
      dsimp only at h ⊢
      rw [pk0 _ a (by omega), Option.bind_some, space_t, w64_ix (by omega)] at h
      rw [pk0 _ (k + a) (by omega), Option.bind_some, space_t, tst_drop, w64_ix (by omega)]
      cases ht : tst spc1 (s.drop k) a with
      | false =>
        rw [ht, cond_false, Option.bind_some] at h
        rw [cond_false, Option.bind_some]
        obtain ⟨z, z1, z2⟩ := bind_some' h
        obtain ⟨y, y1, y2⟩ := bind_some' z2
        rw [z1, Option.bind_some, y1, Option.bind_some]
        obtain ⟨y2, y3⟩ := Prod.mk.inj (Option.some.inj y2)
        rw [y2, show k + a = k + j from by omega]
      | true =>
        rw [ht, cond_true, Option.bind_some] at h
        rw [cond_true, Option.bind_some]
        obtain ⟨z, z1, z2⟩ := bind_some' h
        obtain ⟨y, y1, y2⟩ := bind_some' z2
        rw [z1, Option.bind_some, y1, Option.bind_some]
        obtain ⟨y2, y3⟩ := Prod.mk.inj (Option.some.inj y2)
        rw [y2, show k + a + 1 = k + j from by omega]
theorem esc0 (s : Str) (i : Nat) (h : i < 900000) : token_scanner_escape s (i : Int) 0 = some (esc s i) := by
  have hesc := esc_t s i 0 (by omega)
  rw [show ((0 : Nat) : Int) = 0 from rfl, Nat.add_zero] at hesc
  exact hesc
theorem sh_word (m : Nat) (s : Str) (k : Nat) (hs : s.length < 100000) (hk : k ≤ s.length) (hm : 10 < m) : ∀ (kk i j : Nat) (v w : Str), i ≤ (s.drop k).length → v.length ≤ 4 * i → token_scanner_word_L1 m (s.drop k) kk (ofB v) (i : Int) = some (w, (j : Int)) →
    token_scanner_word_L1 m s kk (ofB v) ((k + i : Nat) : Int) = some (w, ((k + j : Nat) : Int)) := by
  have hul : (s.drop k).length = s.length - k := List.length_drop
  intro kk
  induction kk with
  | zero => intro i j v w hi hv h; cases h
  | succ kk ih =>
    intro i j v w hi hv h
    rw [token_scanner_word_L1, pk0 _ i (by omega), Option.bind_some, letter_t, esc0 _ i (by omega)] at h
    rw [token_scanner_word_L1, pk0 _ (k + i) (by omega), Option.bind_some, letter_t, tst_drop, pk_drop, esc0 _ (k + i) (by omega), esc_drop]
    cases ht : tst let1 (s.drop k) i with
    | true =>
      have hl := tst_lt ht
      rw [ht, cond_true, w64_ix (by omega)] at h
      rw [cond_true, w64_ix (by omega)]
      obtain ⟨hc, h⟩ := chkE h
      rw [lt_eq] at h
      rw [chk_pos hc, lt_eq]
      have hbl := ((s.drop k)[i]).toNat_lt
      have e1 : ofB v ++ [wu8 (pk (s.drop k) i (-1))] = ofB (v ++ [(s.drop k)[i]]) := by
        rw [pk_at hl, wu8_id (by omega) (by omega), ofB_app]; rfl
      rw [e1] at h ⊢
      exact ih (i + 1) j _ w hl (by simp; omega) h
    | false =>
      rw [ht, cond_false] at h
      rw [cond_false]
      cases h1 : (pk (s.drop k) i (-1) != -1) with
      | false =>
        rw [h1, cond_false, Option.bind_some, cond_false, cond_false] at h
        rw [cond_false, Option.bind_some, cond_false, cond_false]
        obtain ⟨h2, h3⟩ := Prod.mk.inj (Option.some.inj h)
        rw [h2, show k + i = k + j from by omega]
      | true =>
        rw [h1, cond_true, Option.bind_some, cond_true] at h
        rw [cond_true, Option.bind_some, cond_true]
        cases he : esc (s.drop k) i with
        | false =>
          rw [he, cond_false] at h
          rw [cond_false]
          obtain ⟨h2, h3⟩ := Prod.mk.inj (Option.some.inj h)
          rw [h2, show k + i = k + j from by omega]
        | true =>
          obtain ⟨hl, _⟩ := esc_is he
          obtain ⟨E, q, e1, e2, e3, e4, e5, e6⟩ := escaped_eq m (s.drop k) i v (by omega) hm hl (by omega)
          rw [he, cond_true, e1, Option.bind_some] at h
          rw [cond_true, sh_escaped m s k hs hk hm i q hl _ _ e1, Option.bind_some]
          exact ih q j _ w e4 (by rw [List.length_append]; omega) h
theorem sh_word' (m : Nat) (s : Str) (k : Nat) (hs : s.length < 100000) (hk : k ≤ s.length) (hm : 10 < m) (i j : Nat) (w : Str) (hi : i ≤ (s.drop k).length) (h : token_scanner_word m (s.drop k) (i : Int) = some (w, (j : Int))) :
    token_scanner_word m s ((k + i : Nat) : Int) = some (w, ((k + j : Nat) : Int)) := sh_word m s k hs hk hm m i j [] w hi (by simp) h
theorem sh_bad (m : Nat) (s : Str) (k : Nat) (hs : s.length < 100000) (hk : k ≤ s.length) (hm : 10 < m) : ∀ (kk i j : Nat) (t : TToken), i ≤ (s.drop k).length → token_scanner_bad_L1 m (s.drop k) kk (i : Int) = some (t, (j : Int)) →
    token_scanner_bad_L1 m s kk ((k + i : Nat) : Int) = some (t, ((k + j : Nat) : Int)) := by
  have hul : (s.drop k).length = s.length - k := List.length_drop
  intro kk
  induction kk with
  | zero => intro i j t hi h; cases h
  | succ kk ih =>
    intro i j t hi h
    rw [token_scanner_bad_L1, pk0 _ i (by omega), Option.bind_some, esc0 _ i (by omega), Option.bind_some] at h
    rw [token_scanner_bad_L1, pk0 _ (k + i) (by omega), Option.bind_some, pk_drop, esc0 _ (k + i) (by omega), esc_drop, Option.bind_some]
    cases h1 : (pk (s.drop k) i (-1) == -1) with
    | true =>
      rw [h1, cond_true] at h
      rw [cond_true]
      obtain ⟨h2, h3⟩ := Prod.mk.inj (Option.some.inj h)
      rw [h2, show k + i = k + j from by omega]
    | false =>
      have hil : i < (s.drop k).length := by
        by_cases hq : i < (s.drop k).length
        · exact hq
        · rw [pk_end (by omega)] at h1; cases h1
      rw [h1, cond_false] at h
      rw [cond_false]
      cases he : esc (s.drop k) i with
      | true =>
        obtain ⟨E, q, e1, e2, e3, e4, e5, e6⟩ := escaped_eq m (s.drop k) i [] (by omega) hm hil (by simp)
        have e1' : token_scanner_escaped m (s.drop k) (i : Int) [] = some (ofB ([] ++ E), (q : Int)) := e1
        rw [he, cond_true, e1', Option.bind_some] at h
        rw [cond_true, sh_escaped m s k hs hk hm i q hil _ _ e1', Option.bind_some]
        exact ih q j t e4 h
      | false =>
        have hw : w64 (w64 ((i : Int) + 1) - 1) = (i : Int) := by rw [w64_ix (by omega), w64_id (by omega) (by omega)]; omega
        have hw2 : w64 (w64 (((k + i : Nat) : Int) + 1) - 1) = ((k + i : Nat) : Int) := by rw [w64_ix (by omega), w64_id (by omega) (by omega)]; omega
        rw [he, cond_false, hw, chk_ix hil, lt_eq, w64_ix (by omega), bat_pk _ i (-1) hil] at h
        rw [cond_false, hw2, chk_ix (by omega), lt_eq, w64_ix (by omega), bat_pk _ (k + i) (-1) (by omega), pk_drop]
        cases h4 : (pk (s.drop k) i (-1) == 41) with
        | true =>
          rw [h4, cond_true] at h
          rw [cond_true]
          obtain ⟨h2, h3⟩ := Prod.mk.inj (Option.some.inj h)
          rw [h2, show k + i + 1 = k + j from by omega]
        | false =>
          rw [h4, cond_false] at h
          rw [cond_false]
          exact ih (i + 1) j t hil h
end Go.Proofs.YtfancfogkhclfaaGreatDoor

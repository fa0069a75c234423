/-
  What is read of a text's rest is what is read of the text from there on: strings, addresses, numbers, tokens, comments.
-/
import Derived.Test.YtfancfogkhclfaaGreatDoorPSh
set_option linter.unusedVariables false
namespace Go.Proofs.YtfancfogkhclfaaGreatDoor
open Go Go.V
set_option maxRecDepth 100000
theorem pair_inj {α : Type} {a b : α} {x y : Int} (h : some (a, x) = some (b, y)) : a = b ∧ x = y := Prod.mk.inj (Option.some.inj h)
def shS {α β : Type} (k : Nat) : Sum (α × Int) (β × Int) → Sum (α × Int) (β × Int)
  | .inl p => .inl (p.1, p.2 + k)
  | .inr p => .inr (p.1, p.2 + k)
theorem sh_quoted (m : Nat) (s : Str) (k : Nat) (hs : s.length < 100000) (hk : k ≤ s.length) (hm : 10 < m) (y : Int) : ∀ (kk i : Nat) (v : Str) (z : Sum (TToken × Int) ((List Int) × Int)), i ≤ (s.drop k).length → v.length ≤ 4 * i →
    token_scanner_quoted_L1 m (s.drop k) y kk (ofB v) (i : Int) = some z → token_scanner_quoted_L1 m s y kk (ofB v) ((k + i : Nat) : Int) = some (shS k z) := by
  have hul : (s.drop k).length = s.length - k := List.length_drop
  intro kk
  induction kk with
  | zero => intro i v z hi hv h; cases h
  | succ kk ih =>
    intro i v z hi hv h
    rw [token_scanner_quoted_L1, pk0 _ i (by omega), Option.bind_some, pk1 _ i (by omega)] at h
    rw [token_scanner_quoted_L1, pk0 _ (k + i) (by omega), Option.bind_some, pk_drop, pk1 _ (k + i) (by omega), show k + i + 1 = k + (i + 1) from rfl, pk_drop]
    cases h1 : (pk (s.drop k) i (-1) == -1) with
    | true =>
      rw [h1, cond_true] at h
      rw [cond_true, ← Option.some.inj h]
      have e : (((k + i : Nat)) : Int) = (i : Int) + (k : Int) := by omega
      rw [e]; rfl
    | false =>
      have hil : i < (s.drop k).length := by
        by_cases hq : i < (s.drop k).length
        · exact hq
        · rw [pk_end (by omega)] at h1; cases h1
      rw [h1, cond_false] at h
      rw [cond_false]
      cases h2 : (pk (s.drop k) i (-1) == y) with
      | true =>
        rw [h2, cond_true, w64_ix (by omega)] at h
        rw [cond_true, w64_ix (by omega), ← Option.some.inj h]
        have e : (((k + i + 1 : Nat)) : Int) = ((i + 1 : Nat) : Int) + (k : Int) := by omega
        rw [e]; rfl
      | false =>
        rw [h2, cond_false] at h
        rw [cond_false]
        cases h3 : (pk (s.drop k) i (-1) == 10) with
        | true =>
          rw [h3, cond_true] at h
          rw [cond_true, ← Option.some.inj h]
          have e : (((k + i : Nat)) : Int) = (i : Int) + (k : Int) := by omega
          rw [e]; rfl
        | false =>
          rw [h3, cond_false] at h
          rw [cond_false]
          obtain ⟨a, a1, h⟩ := bind_some' h
          obtain ⟨c, c1, h⟩ := bind_some' h
          rw [a1, Option.bind_some, c1, Option.bind_some]
          rw [lt_eq] at h ⊢
          cases h4 : cond (pk (s.drop k) i (-1) == 92) (cond (a == -1) true (c == 10)) false with
          | true =>
            rw [h4, cond_true, lt_eq, show w64 ((i : Int) + 2) = ((i + 2 : Nat) : Int) from w64_add (n := 2) (by omega)] at h
            rw [cond_true, lt_eq, show w64 (((k + i : Nat) : Int) + 2) = ((k + i + 2 : Nat) : Int) from w64_add (n := 2) (by omega)]
            have m1 : (if ln (s.drop k) < ((i + 2 : Nat) : Int) then ln (s.drop k) else ((i + 2 : Nat) : Int)) = ((min (i + 2) (s.drop k).length : Nat) : Int) := by
              unfold ln
              by_cases hq : (((s.drop k).length : Nat) : Int) < ((i + 2 : Nat) : Int)
              · rw [if_pos hq]; omega
              · rw [if_neg hq]; omega
            have m2 : (if ln s < ((k + i + 2 : Nat) : Int) then ln s else ((k + i + 2 : Nat) : Int)) = ((k + min (i + 2) (s.drop k).length : Nat) : Int) := by
              unfold ln
              by_cases hq : (s.length : Int) < ((k + i + 2 : Nat) : Int)
              · rw [if_pos hq]; omega
              · rw [if_neg hq]; omega
            rw [m1] at h
            rw [m2]
            exact ih _ v z (by omega) (by omega) h
          | false =>
            rw [h4, cond_false] at h
            rw [cond_false]
            cases h5 : (pk (s.drop k) i (-1) == 92) with
            | true =>
              obtain ⟨E, q, e1, e2, e3, e4, e5, e6⟩ := escaped_eq m (s.drop k) i v (by omega) hm hil (by omega)
              rw [h5, cond_true, e1, Option.bind_some] at h
              rw [cond_true, sh_escaped m s k hs hk hm i q hil _ _ e1, Option.bind_some]
              exact ih q _ z e4 (by rw [List.length_append]; omega) h
            | false =>
              rw [h5, cond_false, w64_ix (by omega)] at h
              rw [cond_false, w64_ix (by omega)]
              obtain ⟨hc, h⟩ := chkE h
              rw [lt_eq] at h
              rw [chk_pos hc, lt_eq]
              have hbl := ((s.drop k)[i]).toNat_lt
              have e1 : ofB v ++ [wu8 (pk (s.drop k) i (-1))] = ofB (v ++ [(s.drop k)[i]]) := by
                rw [pk_at hil, wu8_id (by omega) (by omega), ofB_app]; rfl
              rw [e1] at h ⊢
              exact ih (i + 1) _ z hil (by simp; omega) h
theorem sh_quoted' (m : Nat) (s : Str) (k : Nat) (hs : s.length < 100000) (hk : k ≤ s.length) (hm : 10 < m) (i j : Nat) (t : TToken) (hi : i < (s.drop k).length) (h : token_scanner_quoted m (s.drop k) (i : Int) = some (t, (j : Int))) :
    token_scanner_quoted m s ((k + i : Nat) : Int) = some (t, ((k + j : Nat) : Int)) := by
  have hul : (s.drop k).length = s.length - k := List.length_drop
  unfold token_scanner_quoted at h ⊢
  rw [pk0 _ i (by omega), Option.bind_some, w64_ix (by omega)] at h
  rw [pk0 _ (k + i) (by omega), Option.bind_some, pk_drop, w64_ix (by omega)]
  obtain ⟨z, z1, z2⟩ := bind_some' h
  have z3 := sh_quoted m s k hs hk hm _ m (i + 1) [] z hi (by simp) z1
  rw [show token_scanner_quoted_L1 m s (pk (s.drop k) i (-1)) m [] ((k + i + 1 : Nat) : Int) = _ from z3, Option.bind_some]
  cases z with
  | inl p =>
    obtain ⟨a, b⟩ := p
    obtain ⟨q1, q2⟩ := pair_inj (show some (a, b) = some (t, (j : Int)) from z2)
    subst q1 q2
    show some (a, (j : Int) + (k : Int)) = _
    rw [show (j : Int) + (k : Int) = ((k + j : Nat) : Int) from by omega]
  | inr p =>
    obtain ⟨a, b⟩ := p
    obtain ⟨q1, q2⟩ := pair_inj (show some ((TToken.mk 5 (toB a) 0 [] false), b) = some (t, (j : Int)) from z2)
    subst q1 q2
    show some ((TToken.mk 5 (toB a) 0 [] false), (j : Int) + (k : Int)) = _
    rw [show (j : Int) + (k : Int) = ((k + j : Nat) : Int) from by omega]
theorem sh_url (m : Nat) (s : Str) (k : Nat) (hs : s.length < 100000) (hk : k ≤ s.length) (hm : 10 < m) (hm2 : s.length < m) : ∀ (kk i j : Nat) (v : Str) (t : TToken), i ≤ (s.drop k).length → v.length ≤ 4 * i →
    token_scanner_url_L1 m (s.drop k) kk (ofB v) (i : Int) = some (t, (j : Int)) → token_scanner_url_L1 m s kk (ofB v) ((k + i : Nat) : Int) = some (t, ((k + j : Nat) : Int)) := by
  have hul : (s.drop k).length = s.length - k := List.length_drop
  intro kk
  induction kk with
  | zero => intro i j v t hi hv h; cases h
  | succ kk ih =>
    have hbad : ∀ (i : Nat) (j : Nat) (t : TToken), i ≤ (s.drop k).length → (Option.bind (token_scanner_bad m (s.drop k) (i : Int)) fun y => some (y.1, y.2)) = some (t, (j : Int)) → (Option.bind (token_scanner_bad m s ((k + i : Nat) : Int)) fun y => some (y.1, y.2)) = some (t, ((k + j : Nat) : Int)) := by
      intro i j t hi h
      obtain ⟨⟨y, e⟩, y1, y2⟩ := bind_some' h
      obtain ⟨q1, q2⟩ := pair_inj (show some (y, e) = some (t, (j : Int)) from y2)
      subst q1 q2
      rw [show token_scanner_bad m s ((k + i : Nat) : Int) = _ from sh_bad m s k hs hk hm m i j y hi y1]
      rfl
    intro i j v t hi hv h
    rw [token_scanner_url_L1, pk0 _ i (by omega), Option.bind_some, space_t] at h
    rw [token_scanner_url_L1, pk0 _ (k + i) (by omega), Option.bind_some, space_t, tst_drop, pk_drop]
    -- what follows the spaces
    have tail : ∀ (a : Nat) (x : Int), a ≤ (s.drop k).length → i ≤ a → x = pk (s.drop k) a (-1) → 
        (cond (x == (-1)) (some ((TToken.mk 7 (toB (ofB v)) 0 [] false), (a : Int))) (cond (x == 41) (some ((TToken.mk 7 (toB (ofB v)) 0 [] false), w64 ((a : Int) + 1))) (
          lt (cond (x == 34) true (x == 39)) fun x56 => lt (cond (cond x56 true (x == 40)) true (decide (x ≤ 8))) fun x57 => lt (cond (cond x57 true (x == 11)) true (token_within x 14 31)) fun x58 =>
          cond (cond x58 true (x == 127)) (Option.bind (token_scanner_bad m (s.drop k) (a : Int)) fun y63 => some (y63.1, y63.2)) (
          cond (x != 92) (chk (ln (ofB v) + ln ([wu8 x] : List Int) ≤ 1099511627776) <| lt ((ofB v) ++ ([wu8 x] : List Int)) fun q77 => token_scanner_url_L1 m (s.drop k) kk q77 (w64 ((a : Int) + 1))) (
          Option.bind (token_scanner_escape (s.drop k) (a : Int) 0) fun y87 => cond y87 (Option.bind (token_scanner_escaped m (s.drop k) (a : Int) (ofB v)) fun y92 => token_scanner_url_L1 m (s.drop k) kk y92.1 y92.2) (
          Option.bind (token_scanner_bad m (s.drop k) (a : Int)) fun y101 => some (y101.1, y101.2)))))) : Option (TToken × Int)) = some (t, (j : Int)) →
        (cond (x == (-1)) (some ((TToken.mk 7 (toB (ofB v)) 0 [] false), ((k + a : Nat) : Int))) (cond (x == 41) (some ((TToken.mk 7 (toB (ofB v)) 0 [] false), w64 (((k + a : Nat) : Int) + 1))) (
          lt (cond (x == 34) true (x == 39)) fun x56 => lt (cond (cond x56 true (x == 40)) true (decide (x ≤ 8))) fun x57 => lt (cond (cond x57 true (x == 11)) true (token_within x 14 31)) fun x58 =>
          cond (cond x58 true (x == 127)) (Option.bind (token_scanner_bad m s ((k + a : Nat) : Int)) fun y63 => some (y63.1, y63.2)) (
          cond (x != 92) (chk (ln (ofB v) + ln ([wu8 x] : List Int) ≤ 1099511627776) <| lt ((ofB v) ++ ([wu8 x] : List Int)) fun q77 => token_scanner_url_L1 m s kk q77 (w64 (((k + a : Nat) : Int) + 1))) (
          Option.bind (token_scanner_escape s ((k + a : Nat) : Int) 0) fun y87 => cond y87 (Option.bind (token_scanner_escaped m s ((k + a : Nat) : Int) (ofB v)) fun y92 => token_scanner_url_L1 m s kk y92.1 y92.2) (
          Option.bind (token_scanner_bad m s ((k + a : Nat) : Int)) fun y101 => some (y101.1, y101.2)))))) : Option (TToken × Int)) = some (t, ((k + j : Nat) : Int)) := by
      intro a x ha hia hx h
      cases h1 : (x == -1) with
      | true =>
        rw [h1, cond_true] at h
        rw [cond_true]
        obtain ⟨q1, q2⟩ := pair_inj h
        rw [q1, show k + a = k + j from by omega]
      | false =>
        have hal : a < (s.drop k).length := by
          by_cases hq : a < (s.drop k).length
          · exact hq
          · rw [hx, pk_end (by omega)] at h1; cases h1
        rw [h1, cond_false] at h
        rw [cond_false]
        cases h2 : (x == 41) with
        | true =>
          rw [h2, cond_true, w64_ix (by omega)] at h
          rw [cond_true, w64_ix (by omega)]
          obtain ⟨q1, q2⟩ := pair_inj h
          rw [q1, show k + a + 1 = k + j from by omega]
        | false =>
          rw [h2, cond_false] at h
          rw [cond_false]
          rw [lt_eq, lt_eq, lt_eq] at h ⊢
          generalize cond (cond (cond (cond (cond (cond (x == 34) true (x == 39)) true (x == 40)) true (decide (x ≤ 8))) true (x == 11)) true (token_within x 14 31)) true (x == 127) = c at h ⊢
          cases c with
          | true =>
            rw [cond_true] at h ⊢
            exact hbad a j t ha h
          | false =>
            rw [cond_false] at h ⊢
            cases h3 : (x != 92) with
            | true =>
              rw [h3, cond_true, w64_ix (by omega)] at h
              rw [cond_true, w64_ix (by omega)]
              obtain ⟨hc, h⟩ := chkE h
              rw [lt_eq] at h
              rw [chk_pos hc, lt_eq]
              have hbl := ((s.drop k)[a]).toNat_lt
              have e1 : ofB v ++ [wu8 x] = ofB (v ++ [(s.drop k)[a]]) := by
                rw [hx, pk_at hal, wu8_id (by omega) (by omega), ofB_app]; rfl
              rw [e1] at h ⊢
              exact ih (a + 1) j _ t hal (by simp; omega) h
            | false =>
              rw [h3, cond_false, esc0 _ a (by omega), Option.bind_some] at h
              rw [cond_false, esc0 _ (k + a) (by omega), esc_drop, Option.bind_some]
              cases he : esc (s.drop k) a with
              | true =>
                obtain ⟨E, q, e1, e2, e3, e4, e5, e6⟩ := escaped_eq m (s.drop k) a v (by omega) hm hal (by omega)
                rw [he, cond_true, e1, Option.bind_some] at h
                rw [cond_true, sh_escaped m s k hs hk hm a q hal _ _ e1, Option.bind_some]
                exact ih q j _ t e4 (by rw [List.length_append]; omega) h
              | false =>
                rw [he, cond_false] at h
                rw [cond_false]
                exact hbad a j t ha h
    cases hst : tst spc1 (s.drop k) i with
    | true =>
      obtain ⟨a, w1, w2, w3, w4, w5, w6⟩ := whiles_eq m (s.drop k) (by omega) (by omega) i hi
      have hsw : token_scanner_while m s ((k + i : Nat) : Int) = some ((k + a : Nat) : Int) := sh_while m s k hs hk m i a hi w1
      rw [hst, cond_true, w1, Option.bind_some, pk0 _ a (by omega), Option.bind_some] at h
      rw [cond_true, hsw, Option.bind_some, pk0 _ (k + a) (by omega), Option.bind_some, pk_drop]
      cases hb : cond (pk (s.drop k) a (-1) != 41) (pk (s.drop k) a (-1) != -1) false with
      | true =>
        rw [hb, cond_true] at h
        rw [cond_true]
        obtain ⟨e, b1, b2, b3, b4⟩ := bad_eq m (s.drop k) (by omega) hm (by omega) a w4
        rw [b1, Option.bind_some, Option.bind_some] at h
        rw [show token_scanner_bad m s ((k + a : Nat) : Int) = _ from sh_bad m s k hs hk hm m a e btok w4 b1, Option.bind_some, Option.bind_some]
        obtain ⟨q1, q2⟩ := pair_inj (show some (btok, (e : Int)) = some (t, (j : Int)) from h)
        subst q1
        show some (btok, ((k + e : Nat) : Int)) = _
        rw [show k + e = k + j from by omega]
      | false =>
        rw [hb, cond_false, Option.bind_some] at h
        rw [cond_false, Option.bind_some]
        exact tail a _ w4 w3 rfl h
    | false =>
      rw [hst, cond_false, Option.bind_some] at h
      rw [cond_false, Option.bind_some]
      exact tail i _ hi (Nat.le_refl _) rfl h
end Go.Proofs.YtfancfogkhclfaaGreatDoor

/-
  The shape of each token.
-/
import Derived.Test.YtfancfogkhclfaaGreatDoorPZ
set_option linter.unusedVariables false
namespace Go.Proofs.YtfancfogkhclfaaGreatDoor
open Go Go.V
set_option maxRecDepth 100000
theorem bind_some' {α β : Type} {x : Option α} {f : α → Option β} {r : β} (h : Option.bind x f = some r) : ∃ y, x = some y ∧ f y = some r := by
  cases x with
  | none => cases h
  | some y => exact ⟨y, rfl, h⟩
theorem pair_inj {α : Type} {a b : α} {x y : Int} (h : some (a, x) = some (b, y)) : a = b ∧ x = y := Prod.mk.inj (Option.some.inj h)
/-- What a token has. -/
def Good (t : TToken) : Prop := law02_shaped t = some true
theorem good_word {k : Int} (hk : k = 1 ∨ k = 2 ∨ k = 3) {w : Str} (hw : w ≠ []) : Good (TToken.mk k w 0 [] false) := by
  cases w with
  | nil => exact absurd rfl hw
  | cons a l => rcases hk with rfl | rfl | rfl <;> rfl
theorem good_hash {w : Str} (hw : w ≠ []) (f : Bool) : Good (TToken.mk 4 w 0 [] f) := by
  cases w with
  | nil => exact absurd rfl hw
  | cons a l => rfl
theorem good_text {k : Int} (hk : k = 5 ∨ k = 7) (w : Str) : Good (TToken.mk k w 0 [] false) := by
  rcases hk with rfl | rfl <;> rfl
theorem good_num {k W : Int} {un : Str} {f : Bool} (hk : (k = 10 ∧ un = []) ∨ (k = 11 ∧ un = [] ∧ f = false) ∨ (k = 12 ∧ un ≠ [])) (h1 : -1000000000000 ≤ W) (h2 : W ≤ 1000000000000) (h3 : f = true → Int.tmod W 1000 = 0) : Good (TToken.mk k [] W un f) := by
  have e1 : decide ((-1000000000000 : Int) ≤ W) = true := decide_eq_true h1
  have e2 : decide (W ≤ 1000000000000) = true := decide_eq_true h2
  have e3 : cond (cond (!f) true (Int.tmod W 1000 == 0)) true (W == 1000000000000) = true := by
    cases f with
    | false => rfl
    | true => rw [h3 rfl]; rfl
  have go : ∀ z, z = true → (some z : Option Bool) = some true := fun z h => by rw [h]
  unfold Good law02_shaped
  rcases hk with ⟨rfl, rfl⟩ | ⟨rfl, rfl, rfl⟩ | ⟨rfl, hu⟩
  · show some (cond (cond (cond (cond (cond (decide (-1000000000000 ≤ W)) (decide (W ≤ 1000000000000)) false) (cond (cond (!f) true (Int.tmod W 1000 == 0)) true (W == 1000000000000)) false) true false) true false) true false) = some true
    rw [e1, e2, e3]; rfl
  · show some (cond (cond (cond (cond (cond (decide (-1000000000000 ≤ W)) (decide (W ≤ 1000000000000)) false) (cond (cond (!false) true (Int.tmod W 1000 == 0)) true (W == 1000000000000)) false) true false) true false) true false) = some true
    rw [e1, e2, e3]; rfl
  · cases un with
    | nil => exact absurd rfl hu
    | cons a l =>
      show some (cond (cond (cond (cond (cond (decide (-1000000000000 ≤ W)) (decide (W ≤ 1000000000000)) false) (cond (cond (!f) true (Int.tmod W 1000 == 0)) true (W == 1000000000000)) false) true false) true false) true false) = some true
      rw [e1, e2, e3]; rfl
/-- Bytes that are tokens by themselves. -/
def okB (n : Nat) : Bool := (!(token_space (n : Int))) && (!(n == 34)) && (!(n == 39)) && (!(decide (48 ≤ n) && decide (n ≤ 57))) && decide (n < 128)
theorem delim_all : ((List.range 128).all fun n => cond (okB n) (law02_shaped (TToken.mk 9 [UInt8.ofNat n] 0 [] false) == some true) true) = true := by kernel_rfl
theorem good_delim {b : UInt8} (h : okB b.toNat = true) : Good (TToken.mk 9 [b] 0 [] false) := by
  have hl : b.toNat < 128 := by
    unfold okB at h
    rw [Bool.and_eq_true] at h
    exact of_decide_eq_true h.2
  have h1 := nat_all delim_all hl
  rw [h, cond_true, show UInt8.ofNat b.toNat = b from by simp] at h1
  exact eq_of_beq h1
/-! ## Names are not empty -/
theorem word_mono (m : Nat) (s : Str) (hs : s.length < 100000) (hm : 10 < m) : ∀ (kk i : Nat) (v w : Str) (j : Int), i ≤ s.length → v.length ≤ 4 * i → token_scanner_word_L1 m s kk (ofB v) (i : Int) = some (w, j) → v.length ≤ w.length := by
  intro kk
  induction kk with
  | zero => intro i v w j hi hv h; cases h
  | succ kk ih =>
    intro i v w j hi hv h
    have hesc := esc_t s i 0 (by omega)
    rw [show ((0 : Nat) : Int) = 0 from rfl, Nat.add_zero] at hesc
    rw [token_scanner_word_L1, pk0 _ i (by omega), Option.bind_some, letter_t, hesc] at h
    cases ht : tst let1 s i with
    | true =>
      have hl := tst_lt ht
      rw [ht, cond_true, w64_ix (by omega)] at h
      obtain ⟨hc, h⟩ := chkE h
      rw [lt_eq] at h
      have hbl := (s[i]).toNat_lt
      have e1 : ofB v ++ [wu8 (pk s i (-1))] = ofB (v ++ [s[i]]) := by
        rw [pk_at hl, wu8_id (by omega) (by omega), ofB_app]; rfl
      rw [e1] at h
      have := ih (i + 1) _ w j hl (by simp; omega) h
      rw [List.length_append] at this
      omega
    | false =>
      rw [ht, cond_false] at h
      cases h1 : (pk s i (-1) != -1) with
      | false =>
        rw [h1, cond_false, Option.bind_some, cond_false, cond_false] at h
        obtain ⟨h2, h3⟩ := pair_inj h
        rw [← h2, toB_ofB]
        exact Nat.le_refl _
      | true =>
        rw [h1, cond_true, Option.bind_some, cond_true] at h
        cases he : esc s i with
        | false =>
          rw [he, cond_false] at h
          obtain ⟨h2, h3⟩ := pair_inj h
          rw [← h2, toB_ofB]
          exact Nat.le_refl _
        | true =>
          obtain ⟨hl, _⟩ := esc_is he
          obtain ⟨E, q, e1, e2, e3, e4, e5, e6⟩ := escaped_eq m s i v (by omega) hm hl (by omega)
          rw [he, cond_true, e1, Option.bind_some] at h
          have := ih q _ w j e4 (by rw [List.length_append]; omega) h
          rw [List.length_append] at this
          omega
theorem word_ne (m : Nat) (s : Str) (hs : s.length < 100000) (hm : 10 < m) (i : Nat) (hi : i < s.length) (h : tst let1 s i = true ∨ esc s i = true) {w : Str} {j : Int} (hj : token_scanner_word m s (i : Int) = some (w, j)) : w ≠ [] := by
  obtain ⟨k, rfl⟩ : ∃ k, m = k + 1 := ⟨m - 1, by omega⟩
  have hesc := esc_t s i 0 (by omega)
  rw [show ((0 : Nat) : Int) = 0 from rfl, Nat.add_zero] at hesc
  unfold token_scanner_word at hj
  rw [token_scanner_word_L1, pk0 _ i (by omega), Option.bind_some, letter_t, hesc] at hj
  have hbl := (s[i]).toNat_lt
  intro hw
  subst hw
  cases hl : tst let1 s i with
  | true =>
    rw [hl, cond_true, pk_at hi, wu8_id (by omega) (by omega), w64_ix (by omega)] at hj
    obtain ⟨hp, hj⟩ := chkE hj
    rw [lt_eq] at hj
    have := word_mono (k + 1) s hs hm k (i + 1) [s[i]] [] j hi (by simp; omega) hj
    simp at this
  | false =>
    rw [hl] at h hj
    have he : esc s i = true := by rcases h with h | h; cases h; exact h
    obtain ⟨E, q, e1, e2, e3, e4, e5, e6⟩ := escaped_eq (k + 1) s i [] hs hm hi (by simp)
    rw [cond_false, he, show (pk s i (-1) != (-1)) = true from by rw [pk_at hi]; exact bne_iff_ne.2 (by omega), cond_true, Option.bind_some, cond_true, cond_true, show token_scanner_escaped (k + 1) s (i : Int) [] = _ from e1, Option.bind_some] at hj
    have := word_mono (k + 1) s hs hm k q ([] ++ E) [] j e4 (by simp; omega) hj
    have hE : E.length = 0 := by simpa using this
    exact e6 (List.length_eq_zero_iff.1 hE)
/-! ## Strings and addresses -/
theorem quoted_kind (m : Nat) (s : Str) (y : Int) : ∀ (kk : Nat) (b : List Int) (i : Int) (z : Sum (TToken × Int) ((List Int) × Int)), token_scanner_quoted_L1 m s y kk b i = some z → (∃ e, z = .inl (TToken.mk 6 [] 0 [] false, e)) ∨ ∃ p, z = .inr p := by
  intro kk
  induction kk with
  | zero => intro b i z h; cases h
  | succ kk ih =>
    intro b i z h
    rw [token_scanner_quoted_L1] at h
    obtain ⟨x, _, h⟩ := bind_some' h
    cases h1 : (x == -1) with
    | true => rw [h1, cond_true] at h; exact Or.inr ⟨_, (Option.some.inj h).symm⟩
    | false =>
      rw [h1, cond_false] at h
      cases h2 : (x == y) with
      | true => rw [h2, cond_true] at h; exact Or.inr ⟨_, (Option.some.inj h).symm⟩
      | false =>
        rw [h2, cond_false] at h
        cases h3 : (x == 10) with
        | true => rw [h3, cond_true] at h; exact Or.inl ⟨_, (Option.some.inj h).symm⟩
        | false =>
          rw [h3, cond_false] at h
          obtain ⟨a, _, h⟩ := bind_some' h
          obtain ⟨c, _, h⟩ := bind_some' h
          rw [lt_eq] at h
          cases h4 : cond (x == 92) (cond (a == -1) true (c == 10)) false with
          | true => rw [h4, cond_true, lt_eq] at h; exact ih _ _ z h
          | false =>
            rw [h4, cond_false] at h
            cases h5 : (x == 92) with
            | true =>
              rw [h5, cond_true] at h
              obtain ⟨q, _, h⟩ := bind_some' h
              exact ih _ _ z h
            | false =>
              rw [h5, cond_false] at h
              obtain ⟨_, h⟩ := chkE h
              rw [lt_eq] at h
              exact ih _ _ z h
theorem good_quoted (m : Nat) (s : Str) (i : Int) {t : TToken} {e : Int} (h : token_scanner_quoted m s i = some (t, e)) : Good t ∧ t.Kind ≠ 13 := by
  unfold token_scanner_quoted at h
  obtain ⟨x, _, h⟩ := bind_some' h
  obtain ⟨z, z1, z2⟩ := bind_some' h
  rcases quoted_kind m s x m _ _ z z1 with ⟨q, rfl⟩ | ⟨p, rfl⟩
  · obtain ⟨q1, _⟩ := pair_inj (show some (TToken.mk 6 [] 0 [] false, q) = some (t, e) from z2)
    subst q1
    exact ⟨rfl, by decide⟩
  · obtain ⟨q1, _⟩ := pair_inj (show some (TToken.mk 5 (toB p.1) 0 [] false, p.2) = some (t, e) from z2)
    subst q1
    exact ⟨good_text (Or.inl rfl) _, by show (5 : Int) ≠ 13; decide⟩
theorem bad_kind (m : Nat) (s : Str) : ∀ (kk : Nat) (i : Int) (t : TToken) (e : Int), token_scanner_bad_L1 m s kk i = some (t, e) → t = TToken.mk 8 [] 0 [] false := by
  intro kk
  induction kk with
  | zero => intro i t e h; cases h
  | succ kk ih =>
    intro i t e h
    rw [token_scanner_bad_L1] at h
    obtain ⟨x, _, h⟩ := bind_some' h
    cases h1 : (x == -1) with
    | true => rw [h1, cond_true] at h; exact (pair_inj h).1.symm
    | false =>
      rw [h1, cond_false] at h
      obtain ⟨y, _, h⟩ := bind_some' h
      cases y with
      | true =>
        rw [cond_true] at h
        obtain ⟨q, _, h⟩ := bind_some' h
        exact ih _ _ _ h
      | false =>
        rw [cond_false] at h
        obtain ⟨_, h⟩ := chkE h
        rw [lt_eq] at h
        cases h2 : (bat s (w64 (w64 (i + 1) - 1)) == 41) with
        | true => rw [h2, cond_true] at h; exact (pair_inj h).1.symm
        | false => rw [h2, cond_false] at h; exact ih _ _ _ h
theorem good_bad (m : Nat) (s : Str) (i : Int) {t : TToken} {e : Int} (h : token_scanner_bad m s i = some (t, e)) : Good t ∧ t.Kind ≠ 13 := by
  have := bad_kind m s m i t e h
  subst this
  exact ⟨rfl, by decide⟩
theorem good_badB (m : Nat) (s : Str) (i : Int) {t : TToken} {e : Int} (h : (Option.bind (token_scanner_bad m s i) fun y => some (y.1, y.2)) = some (t, e)) : Good t ∧ t.Kind ≠ 13 := by
  obtain ⟨⟨a, b⟩, a1, a2⟩ := bind_some' h
  obtain ⟨q1, _⟩ := pair_inj (show some (a, b) = some (t, e) from a2)
  subst q1
  exact good_bad m s i a1
theorem good_urlL (m : Nat) (s : Str) : ∀ (kk : Nat) (b : List Int) (i : Int) (t : TToken) (e : Int), token_scanner_url_L1 m s kk b i = some (t, e) → Good t ∧ t.Kind ≠ 13 := by
  intro kk
  induction kk with
  | zero => intro b i t e h; cases h
  | succ kk ih =>
    intro b i t e h
    rw [token_scanner_url_L1] at h
    obtain ⟨x, _, h⟩ := bind_some' h
    obtain ⟨z, z1, h⟩ := bind_some' h
    cases z with
    | inl p =>
      have hp : some (p.1, p.2) = some (t, e) := h
      obtain ⟨q1, _⟩ := pair_inj hp
      cases hsp : token_space x with
      | true =>
        rw [hsp, cond_true] at z1
        obtain ⟨a, _, z1⟩ := bind_some' z1
        obtain ⟨c, _, z1⟩ := bind_some' z1
        cases hc : cond (c != 41) (c != -1) false with
        | true =>
          rw [hc, cond_true] at z1
          obtain ⟨d, d1, z1⟩ := bind_some' z1
          have : (Sum.inl (d.1, d.2) : Sum (TToken × Int) (Int × Int)) = .inl p := Option.some.inj z1
          have h3 : (d.1, d.2) = p := by injection this
          rw [← q1, ← h3]
          exact good_bad m s a d1
        | false => rw [hc, cond_false] at z1; cases z1
      | false => rw [hsp, cond_false] at z1; cases z1
    | inr p =>
      unfold sumK at h
      dsimp only at h
      cases h1 : (p.1 == -1) with
      | true =>
        rw [h1, cond_true] at h
        obtain ⟨q1, _⟩ := pair_inj h
        subst q1
        exact ⟨good_text (Or.inr rfl) _, by show (7 : Int) ≠ 13; decide⟩
      | false =>
        rw [h1, cond_false] at h
        cases h2 : (p.1 == 41) with
        | true =>
          rw [h2, cond_true] at h
          obtain ⟨q1, _⟩ := pair_inj h
          subst q1
          exact ⟨good_text (Or.inr rfl) _, by show (7 : Int) ≠ 13; decide⟩
        | false =>
          rw [h2, cond_false, lt_eq, lt_eq, lt_eq] at h
          generalize cond (cond (cond (cond (cond (cond (p.1 == 34) true (p.1 == 39)) true (p.1 == 40)) true (decide (p.1 ≤ 8))) true (p.1 == 11)) true (token_within p.1 14 31)) true (p.1 == 127) = c at h
          cases c with
          | true => rw [cond_true] at h; exact good_badB m s _ h
          | false =>
            rw [cond_false] at h
            cases h3 : (p.1 != 92) with
            | true =>
              rw [h3, cond_true] at h
              obtain ⟨_, h⟩ := chkE h
              rw [lt_eq] at h
              exact ih _ _ _ _ h
            | false =>
              rw [h3, cond_false] at h
              obtain ⟨a, _, h⟩ := bind_some' h
              cases a with
              | true =>
                rw [cond_true] at h
                obtain ⟨d, _, h⟩ := bind_some' h
                exact ih _ _ _ _ h
              | false => rw [cond_false] at h; exact good_badB m s _ h
theorem good_url (m : Nat) (s : Str) (i : Int) {t : TToken} {e : Int} (h : token_scanner_url m s i = some (t, e)) : Good t ∧ t.Kind ≠ 13 := by
  unfold token_scanner_url at h
  obtain ⟨a, _, h⟩ := bind_some' h
  exact good_urlL m s m _ _ t e h
theorem good_ident (m : Nat) (s : Str) (hs : s.length < 100000) (hm : 10 < m) (i : Nat) (hi : i < s.length) (hn : nam s i = true) {t : TToken} {e : Int} (h : token_scanner_ident m s (i : Int) = some (t, e)) : Good t ∧ t.Kind ≠ 13 := by
  unfold token_scanner_ident at h
  obtain ⟨⟨w, j⟩, w1, h⟩ := bind_some' h
  have hw := word_ne m s hs hm i hi (nam_let hn) w1
  obtain ⟨a, _, h⟩ := bind_some' h
  cases h1 : (a != 40) with
  | true =>
    rw [h1, cond_true] at h
    obtain ⟨q1, _⟩ := pair_inj h
    subst q1
    exact ⟨good_word (Or.inl rfl) hw, by show (1 : Int) ≠ 13; decide⟩
  | false =>
    rw [h1, cond_false] at h
    obtain ⟨z, z1, h⟩ := bind_some' h
    cases z with
    | inr u =>
      obtain ⟨q1, _⟩ := pair_inj (show some (TToken.mk 2 w 0 [] false, _) = some (t, e) from h)
      subst q1
      exact ⟨good_word (Or.inr (Or.inl rfl)) hw, by show (2 : Int) ≠ 13; decide⟩
    | inl p =>
      obtain ⟨q1, _⟩ := pair_inj (show some (p.1, p.2) = some (t, e) from h)
      obtain ⟨a, _, z1⟩ := bind_some' z1
      cases a with
      | false => rw [cond_false] at z1; cases z1
      | true =>
        rw [cond_true] at z1
        obtain ⟨c, _, z1⟩ := bind_some' z1
        obtain ⟨d, _, z1⟩ := bind_some' z1
        cases hc : cond (d != 34) (d != 39) false with
        | false => rw [hc, cond_false] at z1; cases z1
        | true =>
          rw [hc, cond_true] at z1
          obtain ⟨u, u1, z1⟩ := bind_some' z1
          have : (Sum.inl (u.1, u.2) : Sum (TToken × Int) Unit) = .inl p := Option.some.inj z1
          have h3 : (u.1, u.2) = p := by injection this
          rw [← q1, ← h3]
          exact good_url m s _ u1
end Go.Proofs.YtfancfogkhclfaaGreatDoor

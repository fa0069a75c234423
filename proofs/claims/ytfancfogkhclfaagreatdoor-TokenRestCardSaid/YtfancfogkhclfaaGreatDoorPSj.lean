/-
  What is read of a text's rest is what is read of the text from there on: whole tokens, and all of them.
-/
import Derived.Test.YtfancfogkhclfaaGreatDoorPSi
set_option linter.unusedVariables false
namespace Go.Proofs.YtfancfogkhclfaaGreatDoor
open Go Go.V
set_option maxRecDepth 100000
theorem numEndA_sh (s : Str) (k i : Nat) : numEndA s (k + i) = (k + (numEndA (s.drop k) i).1, (numEndA (s.drop k) i).2) := by
  rw [numEndA_drop, numEndA_drop (s.drop k) i, List.drop_drop]
  dsimp only
  rw [Nat.add_assoc]
theorem numAt_sh (s : Str) (k i : Nat) : numAt s (k + i) = numAt (s.drop k) i := by
  rw [numAt_drop, numAt_drop (s.drop k) i, List.drop_drop]
theorem sh_numeric (m : Nat) (s : Str) (k : Nat) (hs : s.length ≤ 4000) (hk : k ≤ s.length) (hm : 4020 < m) (i j : Nat) (t : TToken) (hi : i ≤ (s.drop k).length) (hn : numAt (s.drop k) i = true) (h : token_scanner_numeric m (s.drop k) (i : Int) = some (t, (j : Int))) :
    token_scanner_numeric m s ((k + i : Nat) : Int) = some (t, ((k + j : Nat) : Int)) := by
  have hul : (s.drop k).length = s.length - k := List.length_drop
  obtain ⟨n1, n2, _⟩ := num_sub (s.drop k) i hi hn
  unfold token_scanner_numeric at h ⊢
  rw [endA_t m (s.drop k) (by omega) (by omega) i hi, Option.bind_some] at h
  rw [endA_t m s (by omega) (by omega) (k + i) (by omega), Option.bind_some, numEndA_sh]
  generalize hE : (numEndA (s.drop k) i).1 = E at h n1 n2
  generalize (numEndA (s.drop k) i).2 = wh at h
  dsimp only at h ⊢
  obtain ⟨_, h⟩ := chkE h
  rw [chk_pos ⟨by omega, by omega, by unfold ln; omega⟩, sub_drop]
  obtain ⟨W, W1, h⟩ := bind_some' h
  rw [W1, Option.bind_some]
  rw [name_t _ E (by omega), Option.bind_some] at h
  rw [name_t _ (k + E) (by omega), Option.bind_some, nam_drop]
  cases hnm : nam (s.drop k) E with
  | true =>
    obtain ⟨w, q, f1, f2, f3, f4, _⟩ := word_all m (s.drop k) (by omega) (by omega) (by omega) E n2
    rw [hnm, cond_true, f1, Option.bind_some, Option.bind_some] at h
    rw [cond_true, sh_word' m s k (by omega) hk (by omega) E q w n2 f1, Option.bind_some, Option.bind_some]
    obtain ⟨q1, q2⟩ := pair_inj h
    show some (_, ((k + q : Nat) : Int)) = _
    rw [q1, show k + q = k + j from by have : (q : Int) = (j : Int) := q2; omega]
  | false =>
    rw [hnm, cond_false, pk0 _ E (by omega), Option.bind_some] at h
    rw [cond_false, pk0 _ (k + E) (by omega), Option.bind_some, pk_drop]
    cases h37 : (pk (s.drop k) E (-1) == 37) with
    | true =>
      rw [h37, cond_true, Option.bind_some, w64_ix (by omega)] at h
      rw [cond_true, Option.bind_some, w64_ix (by omega)]
      obtain ⟨q1, q2⟩ := pair_inj h
      show some (_, ((k + E + 1 : Nat) : Int)) = _
      rw [q1, show k + E + 1 = k + j from by have : ((E + 1 : Nat) : Int) = (j : Int) := q2; omega]
    | false =>
      rw [h37, cond_false, Option.bind_some] at h
      rw [cond_false, Option.bind_some]
      obtain ⟨q1, q2⟩ := pair_inj h
      show some (_, ((k + E : Nat) : Int)) = _
      rw [q1, show k + E = k + j from by have : ((E : Nat) : Int) = (j : Int) := q2; omega]
theorem sh_ident (m : Nat) (s : Str) (k : Nat) (hs : s.length ≤ 4000) (hk : k ≤ s.length) (hm : 20100 < m) (i j : Nat) (t : TToken) (hi : i ≤ (s.drop k).length) (h : token_scanner_ident m (s.drop k) (i : Int) = some (t, (j : Int))) :
    token_scanner_ident m s ((k + i : Nat) : Int) = some (t, ((k + j : Nat) : Int)) := by
  have hul : (s.drop k).length = s.length - k := List.length_drop
  obtain ⟨w, q, f1, f2, f3, f4, _⟩ := word_all m (s.drop k) (by omega) (by omega) (by omega) i hi
  unfold token_scanner_ident at h ⊢
  rw [f1, Option.bind_some] at h
  rw [sh_word' m s k (by omega) hk (by omega) i q w hi f1, Option.bind_some]
  dsimp only at h ⊢
  rw [pk0 _ q (by omega), Option.bind_some] at h
  rw [pk0 _ (k + q) (by omega), Option.bind_some, pk_drop]
  cases h40 : (pk (s.drop k) q (-1) != 40) with
  | true =>
    rw [h40, cond_true] at h
    rw [cond_true]
    obtain ⟨q1, q2⟩ := pair_inj h
    rw [q1, show k + q = k + j from by omega]
  | false =>
    have hql : q < (s.drop k).length := by
      by_cases hq : q < (s.drop k).length
      · exact hq
      · rw [pk_end (by omega)] at h40; cases h40
    rw [h40, cond_false, w64_ix (by omega)] at h
    rw [cond_false, w64_ix (by omega), show k + q + 1 = k + (q + 1) from rfl]
    obtain ⟨z, z1, h⟩ := bind_some' h
    obtain ⟨a, a1, z1⟩ := bind_some' z1
    rw [a1, Option.bind_some]
    have fin : z = .inr () → sumK z (fun _ => some ((TToken.mk 2 w 0 [] false), ((q + 1 : Nat) : Int))) = some (t, (j : Int)) → some ((TToken.mk 2 w 0 [] false), ((k + (q + 1) : Nat) : Int)) = some (t, ((k + j : Nat) : Int)) := by
      intro e h
      subst e
      obtain ⟨q1, q2⟩ := pair_inj (show some ((TToken.mk 2 w 0 [] false), ((q + 1 : Nat) : Int)) = some (t, (j : Int)) from h)
      rw [q1, show k + (q + 1) = k + j from by omega]
    cases a with
    | false =>
      rw [cond_false] at z1
      rw [cond_false, Option.bind_some]
      exact fin (Option.some.inj z1).symm h
    | true =>
      obtain ⟨p, w1, w2, w3, w4, w5, w6⟩ := whiles_eq m (s.drop k) (by omega) (by omega) (q + 1) hql
      have hsw : token_scanner_while m s ((k + (q + 1) : Nat) : Int) = some ((k + p : Nat) : Int) := sh_while m s k (by omega) hk m (q + 1) p hql w1
      rw [cond_true, w1, Option.bind_some, pk0 _ p (by omega), Option.bind_some] at z1
      rw [cond_true, hsw, Option.bind_some, pk0 _ (k + p) (by omega), Option.bind_some, pk_drop]
      cases hc : cond (pk (s.drop k) p (-1) != 34) (pk (s.drop k) p (-1) != 39) false with
      | false =>
        rw [hc, cond_false] at z1
        rw [cond_false, Option.bind_some]
        exact fin (Option.some.inj z1).symm h
      | true =>
        rw [hc, cond_true] at z1
        rw [cond_true]
        obtain ⟨x, e, u1, u2, u3, u4⟩ := url_eq m (s.drop k) (by omega) (by omega) (by omega) (q + 1) hql
        rw [u1, Option.bind_some] at z1
        have hu : token_scanner_url m s ((k + (q + 1) : Nat) : Int) = some (x, ((k + e : Nat) : Int)) := by
          unfold token_scanner_url at u1 ⊢
          rw [w1, Option.bind_some] at u1
          rw [hsw, Option.bind_some]
          exact sh_url m s k (by omega) hk (by omega) (by omega) m p e [] x w4 (by simp) u1
        rw [hu, Option.bind_some, Option.bind_some]
        rw [← Option.some.inj z1] at h
        obtain ⟨q1, q2⟩ := pair_inj (show some (x, (e : Int)) = some (t, (j : Int)) from h)
        show some (x, ((k + e : Nat) : Int)) = _
        rw [q1, show k + e = k + j from by omega]
theorem sh_next (m : Nat) (s : Str) (k : Nat) (hs : s.length ≤ 4000) (hk : k ≤ s.length) (hm : 20100 < m) (i j : Nat) (t : TToken) (hi : i < (s.drop k).length) (h : token_scanner_next m (s.drop k) (i : Int) = some (t, (j : Int))) :
    token_scanner_next m s ((k + i : Nat) : Int) = some (t, ((k + j : Nat) : Int)) := by
  have hul : (s.drop k).length = s.length - k := List.length_drop
  have cut : ∀ {x : Option (TToken × Int)}, (Option.bind x fun y => some (y.1, y.2)) = x := fun {x} => by cases x <;> rfl
  have wds : ∀ (i : Nat) (f : Str → TToken), i ≤ (s.drop k).length → (Option.bind (token_scanner_word m (s.drop k) (i : Int)) fun y => some (f y.1, y.2)) = some (t, (j : Int)) → (Option.bind (token_scanner_word m s ((k + i : Nat) : Int)) fun y => some (f y.1, y.2)) = some (t, ((k + j : Nat) : Int)) := by
    intro i f hi h
    obtain ⟨w, q, f1, f2, f3, f4, _⟩ := word_all m (s.drop k) (by omega) (by omega) (by omega) i hi
    rw [f1, Option.bind_some] at h
    rw [sh_word' m s k (by omega) hk (by omega) i q w hi f1, Option.bind_some]
    obtain ⟨q1, q2⟩ := pair_inj (show some (f w, (q : Int)) = some (t, (j : Int)) from h)
    show some (f w, ((k + q : Nat) : Int)) = _
    rw [q1, show k + q = k + j from by omega]
  have hse : ∀ i, i ≤ (s.drop k).length → sub s ((k + i : Nat) : Int) (ln s) = sub (s.drop k) (i : Int) (ln (s.drop k)) := fun i hi => by
    rw [sub_to_end _ _ (by omega), sub_to_end _ _ hi, List.drop_drop]
  unfold token_scanner_next at h ⊢
  rw [pk0 _ i (by omega), Option.bind_some, chk_pos ⟨by omega, by unfold ln; omega⟩, space_t] at h
  rw [pk0 _ (k + i) (by omega), Option.bind_some, chk_pos ⟨by omega, by unfold ln; omega⟩, space_t, tst_drop, pk_drop]
  cases hst : tst spc1 (s.drop k) i with
  | true =>
    obtain ⟨p, w1, w2, w3, w4, w5, w6⟩ := whiles_eq m (s.drop k) (by omega) (by omega) i (by omega)
    have hsw : token_scanner_while m s ((k + i : Nat) : Int) = some ((k + p : Nat) : Int) := sh_while m s k (by omega) hk m i p (by omega) w1
    rw [hst, cond_true, w1, Option.bind_some] at h
    rw [cond_true, hsw, Option.bind_some]
    obtain ⟨q1, q2⟩ := pair_inj h
    rw [q1, show k + p = k + j from by omega]
  | false =>
    rw [hst, cond_false] at h
    rw [cond_false]
    cases hq : cond (pk (s.drop k) i (-1) == 34) true (pk (s.drop k) i (-1) == 39) with
    | true =>
      rw [hq, cond_true, cut] at h
      rw [cond_true, cut]
      exact sh_quoted' m s k (by omega) hk (by omega) i j t hi h
    | false =>
      have hesc1 : token_scanner_escape (s.drop k) (i : Int) 1 = some (esc (s.drop k) (i + 1)) := esc_t _ i 1 (by omega)
      have hnam1 : token_scanner_name (s.drop k) (i : Int) 1 = some (nam (s.drop k) (i + 1)) := nam_t _ i 1 (by omega)
      have hesc2 : token_scanner_escape s ((k + i : Nat) : Int) 1 = some (esc (s.drop k) (i + 1)) := by
        have := esc_t s (k + i) 1 (by omega)
        rw [show k + i + 1 = k + (i + 1) from rfl, esc_drop] at this
        exact this
      have hnam2 : token_scanner_name s ((k + i : Nat) : Int) 1 = some (nam (s.drop k) (i + 1)) := by
        have := nam_t s (k + i) 1 (by omega)
        rw [show k + i + 1 = k + (i + 1) from rfl, nam_drop] at this
        exact this
      rw [hq, cond_false, pk1 _ i (by omega), hesc1, hash_t _ _ _ _ _ _ (letter_t (s.drop k) (i + 1))] at h
      rw [cond_false, pk1 _ (k + i) (by omega), show k + i + 1 = k + (i + 1) from rfl, pk_drop, hesc2, hash_t _ _ _ _ _ _ (letter_t (s.drop k) (i + 1))]
      cases hhash : cond (pk (s.drop k) i (-1) == 35) (cond (tst let1 (s.drop k) (i + 1)) true (esc (s.drop k) (i + 1))) false with
      | true =>
        rw [hhash, cond_true, hnam1, Option.bind_some, w64_ix (by omega)] at h
        rw [cond_true, hnam2, Option.bind_some, w64_ix (by omega)]
        exact wds (i + 1) (fun w => TToken.mk 4 w 0 [] (nam (s.drop k) (i + 1))) hi h
      | false =>
        rw [hhash, cond_false, numberA_t _ (by omega) i (by omega), Option.bind_some] at h
        rw [cond_false, numberA_t _ (by omega) (k + i) (by omega), Option.bind_some, numAt_sh]
        cases hn : numAt (s.drop k) i with
        | true =>
          rw [hn, cond_true, cut] at h
          rw [cond_true, cut]
          exact sh_numeric m s k hs hk (by omega) i j t (by omega) hn h
        | false =>
          rw [hn, cond_false] at h
          rw [cond_false, hse i (by omega)]
          obtain ⟨b1, g1, h⟩ := bind_some' h
          rw [g1, Option.bind_some]
          cases b1 with
          | true =>
            rw [cond_true, show w64 ((i : Int) + 3) = ((i + 3 : Nat) : Int) from w64_add (n := 3) (by omega)] at h
            rw [cond_true, show w64 (((k + i : Nat) : Int) + 3) = ((k + i + 3 : Nat) : Int) from w64_add (n := 3) (by omega)]
            obtain ⟨q1, q2⟩ := pair_inj h
            rw [q1, show k + i + 3 = k + j from by omega]
          | false =>
            rw [cond_false] at h ⊢
            obtain ⟨b2, g2, h⟩ := bind_some' h
            rw [g2, Option.bind_some]
            cases b2 with
            | true =>
              rw [cond_true, show w64 ((i : Int) + 4) = ((i + 4 : Nat) : Int) from w64_add (n := 4) (by omega)] at h
              rw [cond_true, show w64 (((k + i : Nat) : Int) + 4) = ((k + i + 4 : Nat) : Int) from w64_add (n := 4) (by omega)]
              obtain ⟨q1, q2⟩ := pair_inj h
              rw [q1, show k + i + 4 = k + j from by omega]
            | false =>
              rw [cond_false, hnam1, at_b] at h
              rw [cond_false, hnam2, at_b]
              cases hat : cond (pk (s.drop k) i (-1) == 64) (nam (s.drop k) (i + 1)) false with
              | true =>
                rw [hat, cond_true, w64_ix (by omega)] at h
                rw [cond_true, w64_ix (by omega)]
                exact wds (i + 1) (fun w => TToken.mk 3 w 0 [] false) hi h
              | false =>
                rw [hat, cond_false, name_t _ i (by omega), Option.bind_some] at h
                rw [cond_false, name_t _ (k + i) (by omega), Option.bind_some, nam_drop]
                cases hnm : nam (s.drop k) i with
                | true =>
                  rw [hnm, cond_true, cut] at h
                  rw [cond_true, cut]
                  exact sh_ident m s k hs hk hm i j t (by omega) h
                | false =>
                  rw [hnm, cond_false, lt_eq, w64_ix (by omega)] at h
                  rw [cond_false, lt_eq, w64_ix (by omega)]
                  cases hmk : decide (0 ≤ strings_IndexByte [58, 59, 44, 91, 93, 40, 41, 123, 125] (wu8 (pk (s.drop k) i (-1)))) with
                  | true =>
                    rw [hmk, cond_true] at h
                    rw [cond_true]
                    obtain ⟨q1, q2⟩ := pair_inj h
                    rw [q1, show k + i + 1 = k + j from by omega]
                  | false =>
                    rw [hmk, cond_false] at h
                    rw [cond_false]
                    obtain ⟨hc, h⟩ := chkE h
                    rw [chk_pos hc]
                    obtain ⟨q1, q2⟩ := pair_inj h
                    rw [q1, show k + i + 1 = k + j from by omega]
theorem sh_comments (m : Nat) (s : Str) (k : Nat) (hs : s.length < 100000) (hk : k ≤ s.length) (hm : s.length < m) : ∀ (kk i j : Nat), i ≤ (s.drop k).length → token_scanner_comments_L1 m (s.drop k) kk (i : Int) = some (j : Int) → token_scanner_comments_L1 m s kk ((k + i : Nat) : Int) = some ((k + j : Nat) : Int) := by
  have hul : (s.drop k).length = s.length - k := List.length_drop
  intro kk
  induction kk with
  | zero => intro i j hi h; cases h
  | succ kk ih =>
    intro i j hi h
    rw [token_scanner_comments_L1, chk_pos ⟨by omega, by unfold ln; omega⟩, hp2_at 47 42 _ i hi, Option.bind_some] at h
    rw [token_scanner_comments_L1, chk_pos ⟨by omega, by unfold ln; omega⟩, hp2_at 47 42 _ (k + i) (by omega), Option.bind_some, at2_drop]
    cases h1 : at2 (47 : UInt8).toNat (42 : UInt8).toNat (s.drop k) i with
    | false =>
      rw [h1, cond_false] at h
      rw [cond_false]
      have := Option.some.inj h
      rw [show k + i = k + j from by omega]
    | true =>
      have hl := at2_lt h1
      have hw : w64 ((i : Int) + 2) = ((i + 2 : Nat) : Int) := w64_add (n := 2) (by omega)
      have hw2 : w64 (((k + i : Nat) : Int) + 2) = ((k + i + 2 : Nat) : Int) := w64_add (n := 2) (by omega)
      rw [h1, cond_true, hw, chk_pos ⟨by omega, by unfold ln; omega⟩, sub_to_end _ (i + 2) hl] at h
      rw [cond_true, hw2, chk_pos ⟨by omega, by unfold ln; omega⟩, sub_to_end _ (k + i + 2) (by omega), show s.drop (k + i + 2) = (s.drop k).drop (i + 2) from by rw [List.drop_drop]; rfl]
      obtain ⟨z, z1, z2⟩ := L2_r m (s.drop k) (by omega) m (i + 2) (by omega) hl
      have hzl := z2.len
      have hzg := z2.le
      unfold x_strings_Index at h ⊢
      have hch : ((s.drop k).drop (i + 2)).length < 4294967281 := by rw [List.length_drop]; omega
      rw [chk_pos hch, Option.bind_some, cend_index z2] at h
      rw [chk_pos hch, Option.bind_some, cend_index z2]
      by_cases hz : z = (s.drop k).length
      · rw [if_pos hz, show decide ((-1 : Int) < 0) = true from rfl, cond_true] at h
        rw [if_pos hz, show decide ((-1 : Int) < 0) = true from rfl, cond_true]
        have h2 : (((s.drop k).length : Nat) : Int) = (j : Int) := Option.some.inj h
        show some ((s.length : Nat) : Int) = _
        rw [show s.length = k + j from by omega]
      · have hf := z2.fin.resolve_left hz
        have hz2 := at2_lt hf
        rw [if_neg hz, show decide (((z - (i + 2) : Nat) : Int) < 0) = false from decide_eq_false (by omega), cond_false] at h
        rw [if_neg hz, show decide (((z - (i + 2) : Nat) : Int) < 0) = false from decide_eq_false (by omega), cond_false]
        have hw3 : w64 ((i : Int) + w64 (((z - (i + 2) : Nat) : Int) + 4)) = ((z + 2 : Nat) : Int) := by
          rw [w64_id (x := ((z - (i + 2) : Nat) : Int) + 4) (by omega) (by omega), w64_id (by omega) (by omega)]; omega
        have hw4 : w64 (((k + i : Nat) : Int) + w64 (((z - (i + 2) : Nat) : Int) + 4)) = ((k + (z + 2) : Nat) : Int) := by
          rw [w64_id (x := ((z - (i + 2) : Nat) : Int) + 4) (by omega) (by omega), w64_id (by omega) (by omega)]; omega
        rw [hw3] at h
        rw [hw4]
        exact ih (z + 2) j hz2 h
/-- The tokens of the rest are the tokens from there on. -/
theorem sh_toks (m : Nat) (s : Str) (k : Nat) (hs : s.length ≤ 4000) (hk : k ≤ s.length) (hm : 20100 < m) {i : Nat} {ts : List TToken} {ss : List TA2_int} (h : Toks m (s.drop k) i ts ss) : ∀ {ts' : List TToken} {ss' : List TA2_int}, Toks m s (k + i) ts' ss' → ts' = ts := by
  have hul : (s.drop k).length = s.length - k := List.length_drop
  induction h with
  | nil =>
    intro ts' ss' h
    have : k + (s.drop k).length = s.length := by omega
    rw [this] at h
    have hl := h.len
    have : ts'.length = 0 := by omega
    exact List.length_eq_zero_iff.1 this
  | @cons i e j b t ts ss h1 h2 h3 h4 h5 h6 h7 h8 h9 h10 h11 ih =>
    intro ts' ss' h
    have n := sh_next m s k hs hk hm i e t h1 h3
    have c : token_scanner_comments m s ((k + e : Nat) : Int) = some ((k + j : Nat) : Int) := sh_comments m s k (by omega) hk (by omega) m e j h5 h6
    generalize hI : k + i = I at h n
    cases h with
    | nil => omega
    | @cons _ e' j' b' t' ts' ss' g1 g2 g3 g4 g5 g6 g7 g8 g9 g10 g11 =>
      rw [n] at g3
      obtain ⟨q1, q2⟩ := pair_inj g3
      have q3 : e' = k + e := by omega
      subst q3
      rw [c] at g6
      have q4 : ((k + j : Nat) : Int) = (j' : Int) := Option.some.inj g6
      have q5 : j' = k + j := by omega
      subst q5
      rw [q1, ih g11]
theorem toks_drop {m : Nat} {s : Str} {i : Nat} {ts : List TToken} {ss : List TA2_int} (h : Toks m s i ts ss) : ∀ (n : Nat) (h1 : n < ss.length), ∃ e j : Nat, (ss[n]).e1 = (e : Int) ∧ e ≤ s.length ∧ token_scanner_comments m s (e : Int) = some (j : Int) ∧ Toks m s j (ts.drop (n + 1)) (ss.drop (n + 1)) := by
  induction h with
  | nil => intro n h1; simp at h1
  | @cons i e j b t ts ss h1 h2 h3 h4 h5 h6 h7 h8 h9 h10 h11 ih =>
    intro n hn
    cases n with
    | zero => exact ⟨e, j, rfl, h5, h6, h11⟩
    | succ n => exact ih n (by simpa using hn)
end Go.Proofs.YtfancfogkhclfaaGreatDoor

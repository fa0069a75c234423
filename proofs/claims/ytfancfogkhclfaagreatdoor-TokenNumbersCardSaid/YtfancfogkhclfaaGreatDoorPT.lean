/-
  Letters without case, and addresses: both readers see the same.
-/
import Derived.Test.YtfancfogkhclfaaGreatDoorPS
set_option linter.unusedVariables false
namespace Go.Proofs.YtfancfogkhclfaaGreatDoor
open Go Go.V
set_option maxRecDepth 100000
theorem small_all : ((List.range 256).all fun n => r01_Small (n : Int) == cond (cond (decide (65 ≤ (n : Int))) (decide ((n : Int) ≤ 90)) false) (ibit .or .u8 (n : Int) 32) (n : Int) && (decide (0 ≤ r01_Small (n : Int)) && decide (r01_Small (n : Int) < 256))) = true := by kernel_rfl
theorem small_at {x : Int} (h : 0 ≤ x ∧ x < 256) : r01_Small x = cond (cond (decide (65 ≤ x)) (decide (x ≤ 90)) false) (ibit .or .u8 x 32) x ∧ 0 ≤ r01_Small x ∧ r01_Small x < 256 := by
  obtain ⟨n, rfl⟩ : ∃ n : Nat, x = (n : Int) := ⟨x.toNat, by omega⟩
  have h1 := nat_all small_all (n := n) (by omega)
  rw [Bool.and_eq_true, Bool.and_eq_true] at h1
  exact ⟨eq_of_beq h1.1, of_decide_eq_true h1.2.1, of_decide_eq_true h1.2.2⟩
theorem seti_same (l : List Int) (i : Nat) (h : i < l.length) : seti l (i : Int) (gi l (i : Int)) = l := by
  rw [seti_nat, gi_nat l i h, List.set_getElem_self]
theorem lowL_eq (m : Nat) (s : Str) (hs : s.length < 100000) : ∀ (kk i : Nat) (l : List Int), s.length - i < kk → i ≤ s.length → l.length = s.length → (∀ x ∈ l, 0 ≤ x ∧ x < 256) →
    ∃ l', input_Lower_L1 m s kk (i : Int) l = some l' ∧ r01_Lower_L1 m s kk (i : Int) l = some l' := by
  intro kk
  induction kk with
  | zero => intro i l h; omega
  | succ kk ih =>
    intro i l hk hi hl hb
    rw [input_Lower_L1, r01_Lower_L1]
    by_cases hlt : i < s.length
    · have hd : decide ((i : Int) < ln (ofB s)) = true := decide_eq_true (by unfold ln; rw [ofB_len]; omega)
      have hc : 0 ≤ (i : Int) ∧ (i : Int) < ln (ofB s) := ⟨by omega, of_decide_eq_true hd⟩
      have hx : 0 ≤ gi l (i : Int) ∧ gi l (i : Int) < 256 := by rw [gi_nat l i (by omega)]; exact hb _ (List.getElem_mem _)
      obtain ⟨h1, h2⟩ := small_at hx
      rw [hd, cond_true, cond_true, chk_pos hc, chk_pos hc, lt_eq, lt_eq, w64_ix (by omega)]
      have hnx : (cond (cond (decide (65 ≤ gi l (i : Int))) (decide (gi l (i : Int) ≤ 90)) false) (some (seti l (i : Int) (ibit .or .u8 (gi l (i : Int)) 32))) (some l) : Option (List Int)) = some (seti l (i : Int) (r01_Small (gi l (i : Int)))) := by
        rw [h1]
        cases cond (decide (65 ≤ gi l (i : Int))) (decide (gi l (i : Int) ≤ 90)) false
        · rw [cond_false, cond_false, seti_same l i (by omega)]
        · rfl
      rw [hnx, Option.bind_some, lt_eq]
      apply ih (i + 1) _ (by omega) hlt
      · rw [seti_nat, List.length_set]; exact hl
      · intro x hx2
        rw [seti_nat] at hx2
        rcases List.mem_or_eq_of_mem_set hx2 with h | h
        · exact hb x h
        · rw [h]; exact h2
    · have hd : decide ((i : Int) < ln (ofB s)) = false := decide_eq_false (by unfold ln; rw [ofB_len]; omega)
      rw [hd]
      exact ⟨l, rfl, rfl⟩
theorem ofB_byte (s : Str) : ∀ x ∈ ofB s, 0 ≤ x ∧ x < 256 := by
  intro x hx
  obtain ⟨b, _, rfl⟩ := List.mem_map.1 hx
  have := b.toNat_lt
  omega
theorem lower_eq (m : Nat) (s : Str) (hs : s.length < 100000) (hm : s.length < m) : ∃ r, input_Lower m s = some r ∧ r01_Lower m s = some r := by
  obtain ⟨l, h1, h2⟩ := lowL_eq m s hs m 0 (ofB s) (by omega) (by omega) (ofB_len s) (ofB_byte s)
  unfold input_Lower r01_Lower
  rw [show input_Lower_L1 m s m 0 (ofB s) = _ from h1, show r01_Lower_L1 m s m 0 (ofB s) = _ from h2]
  exact ⟨_, rfl, rfl⟩
theorem alike_eq (m : Nat) (a b : Str) (ha : a.length < 100000) (hb : b.length < 100000) (hm : a.length < m) (hm2 : b.length < m) : ∃ r, input_Alike m a b = some r ∧ r01_Alike m a b = some r := by
  obtain ⟨x, h1, h2⟩ := lower_eq m a ha hm
  obtain ⟨y, h3, h4⟩ := lower_eq m b hb hm2
  unfold input_Alike r01_Alike
  rw [h1, h2, h3, h4]
  exact ⟨_, rfl, rfl⟩
/-! ## The nine marks -/
theorem mark_all : ((List.range 256).all fun n => cond (decide (0 ≤ strings_IndexByte [58, 59, 44, 91, 93, 40, 41, 123, 125] (wu8 (n : Int)))) (r02_mark (n : Int) != 0 && (wu8 (16 + (wu8 (strings_IndexByte [58, 59, 44, 91, 93, 40, 41, 123, 125] (wu8 (n : Int))))) == r02_mark (n : Int))) (r02_mark (n : Int) == 0)) = true := by kernel_rfl
theorem mark_at {n : Nat} (hn : n < 256) :
    (decide (0 ≤ strings_IndexByte [58, 59, 44, 91, 93, 40, 41, 123, 125] (wu8 (n : Int))) = true ∧ (r02_mark (n : Int) != 0) = true ∧ wu8 (16 + (wu8 (strings_IndexByte [58, 59, 44, 91, 93, 40, 41, 123, 125] (wu8 (n : Int))))) = r02_mark (n : Int)) ∨
    (decide (0 ≤ strings_IndexByte [58, 59, 44, 91, 93, 40, 41, 123, 125] (wu8 (n : Int))) = false ∧ (r02_mark (n : Int) != 0) = false) := by
  have h := nat_all mark_all hn
  revert h
  generalize decide (0 ≤ strings_IndexByte [58, 59, 44, 91, 93, 40, 41, 123, 125] (wu8 (n : Int))) = c
  cases c with
  | true =>
    rw [cond_true]
    intro h
    rw [Bool.and_eq_true] at h
    exact Or.inl ⟨rfl, h.1, eq_of_beq h.2⟩
  | false =>
    rw [cond_false]
    intro h
    exact Or.inr ⟨rfl, by rw [eq_of_beq h]; rfl⟩
/-! ## An address -/
def unp (c : Int) : Bool := cond (cond (cond (c == 34) true (c == 39)) true (c == 40)) true (r02_Unprintable c)
theorem unp_all : ((List.range 256).all fun n => cond (cond (cond (cond (cond (cond ((n : Int) == 34) true ((n : Int) == 39)) true ((n : Int) == 40)) true (decide ((n : Int) ≤ 8))) true ((n : Int) == 11)) true (token_within (n : Int) 14 31)) true ((n : Int) == 127) == unp (n : Int)) = true := by kernel_rfl
theorem unp_at {n : Nat} (h : n < 256) : cond (cond (cond (cond (cond (cond ((n : Int) == 34) true ((n : Int) == 39)) true ((n : Int) == 40)) true (decide ((n : Int) ≤ 8))) true ((n : Int) == 11)) true (token_within (n : Int) 14 31)) true ((n : Int) == 127) = unp (n : Int) := eq_of_beq (nat_all unp_all h)
theorem sumK_inr {α β : Type} (x : β) (k : β → Option α) : sumK (Sum.inr x) k = k x := rfl
theorem urlK_at (s : Str) (hs : s.length < 100000) (v : Str) (i : Nat) (hi : i ≤ s.length) :
    (sumK (Sum.inr ((i : Int), v)) (fun s_z13 : Int × Str => lt (if w64 (s_z13.1 + 1) < ln s then w64 (s_z13.1 + 1) else ln s) fun x81 => some ((TToken.mk 7 s_z13.2 0 [] false), x81)) : Option (TToken × Int)) = some (TToken.mk 7 v 0 [] false, ((min (i + 1) s.length : Nat) : Int)) := by
  unfold sumK
  try dsimp only
  rw [w64_min (by omega) (by omega), lt_eq]
/-- The reference's last round: at the bracket, or at the end. -/
theorem url_last (m : Nat) (s : Str) (hs : s.length < 100000) (kk j : Nat) (v : Str) (h : j ≤ s.length) (h41 : tst (isb 41) s j = true ∨ s.length ≤ j) : r02_url_L1 m s (kk + 1) (j : Int) v = some (.inr ((j : Int), v)) := by
  rw [r02_url_L1]
  by_cases hlt : j < s.length
  · have h41 : tst (isb 41) s j = true := by rcases h41 with h | h; exact h; omega
    rw [lt_dec hlt, chk_pos (fun _ => ⟨by omega, by unfold ln; omega⟩), lt_eq, cond_true, show (bat s (j : Int) != 41) = !(tst (isb 41) s j) from by rw [bat_pk s j 0 hlt]; exact pk_ne s j 0 41 (by omega), h41]
    rfl
  · rw [ge_dec (by omega), chk_pos (fun h => by cases h), lt_eq, cond_false, cond_false]
theorem spc_all : ((List.range 256).all fun n => cond (token_space (n : Int)) (!(n == 41)) true) = true := by kernel_rfl
theorem spc_not41 {b : UInt8} (h : spc1 b = true) : isb 41 b = false := by
  have h1 := nat_all spc_all b.toNat_lt
  unfold spc1 at h
  rw [h, cond_true] at h1
  unfold isb
  cases h2 : b.toNat == 41 with
  | false => rfl
  | true => rw [h2] at h1; cases h1
theorem urlL_eq (m : Nat) (s : Str) (hs : s.length < 100000) (hm : 10 < m) (hm2 : s.length < m) : ∀ (kk i : Nat) (v : Str), s.length - i + 1 < kk → i ≤ s.length → v.length ≤ 4 * i →
    ∃ (t : TToken) (e : Nat) (z : Sum (TToken × Int) (Int × Str)), token_scanner_url_L1 m s kk (ofB v) (i : Int) = some (t, (e : Int)) ∧ r02_url_L1 m s kk (i : Int) v = some z ∧
      sumK z (fun s_z13 => lt (if w64 (s_z13.1 + 1) < ln s then w64 (s_z13.1 + 1) else ln s) fun x81 => some ((TToken.mk 7 s_z13.2 0 [] false), x81)) = some (t, (e : Int)) ∧ i ≤ e ∧ e ≤ s.length := by
  intro kk
  induction kk with
  | zero => intro i v h; omega
  | succ kk ih =>
    intro i v hk hi hv
    rw [token_scanner_url_L1, r02_url_L1, pk0 s i (by omega), Option.bind_some]
    by_cases hlt : i < s.length
    · have hbl := (s[i]).toNat_lt
      have h41 := isb_at hlt 41
      have h92 := isb_at hlt 92
      rw [show ((41 : Nat) : Int) = 41 from rfl] at h41
      rw [show ((92 : Nat) : Int) = 92 from rfl] at h92
      rw [space_t, lt_dec hlt, chk_pos (fun _ => ⟨by omega, by unfold ln; omega⟩), lt_eq, cond_true, chk_ix hlt]
      have hsp : r02_Space (bat s (i : Int)) = tst spc1 s i := by rw [bat_pk s i 0 hlt, space_r]
      rw [hsp, show (bat s (i : Int) != 41) = !(isb 41 s[i]) from by rw [← h41]; rfl]
      cases hst : tst spc1 s i with
      | true =>
        have h0 : isb 41 s[i] = false := spc_not41 (by rw [tst_at hlt] at hst; exact hst)
        obtain ⟨j, w1, w2, w3, w4, w5, w6⟩ := whiles_eq m s hs hm2 i hi
        have w7 := w6 hst
        rw [h0, Bool.not_false, cond_true, cond_true, cond_true, w1, w2, Option.bind_some, Option.bind_some, pk0 s j (by omega), Option.bind_some]
        by_cases hj : j < s.length
        · have hjb := (s[j]).toNat_lt
          have hm1 : (pk s j (-1) != (-1)) = true := by rw [pk_at hj]; exact bne_iff_ne.2 (by omega)
          have g41 : (pk s j (-1) != 41) = !(tst (isb 41) s j) := pk_ne s j (-1) 41 (by omega)
          rw [lt_dec hj, chk_pos (fun _ => ⟨by omega, by unfold ln; omega⟩), lt_eq, cond_true, show (bat s (j : Int) != 41) = !(tst (isb 41) s j) from by rw [bat_pk s j 0 hj]; exact pk_ne s j 0 41 (by omega), g41, hm1]
          cases h4 : tst (isb 41) s j with
          | true =>
            obtain ⟨k, rfl⟩ : ∃ k, kk = k + 1 := ⟨kk - 1, by omega⟩
            rw [Bool.not_true, cond_false, cond_false, cond_false, url_last m s hs k j v w4 (Or.inl h4)]
            have e41 : pk s j (-1) = 41 := by
              have := pk_is s j (-1) 41 (by omega)
              rw [h4] at this
              exact eq_of_beq this
            rw [e41, Option.bind_some]
            refine ⟨TToken.mk 7 v 0 [] false, j + 1, _, ?_, rfl, ?_, by omega, hj⟩
            · rw [sumK_inr]
              try dsimp only
              rw [show ((41 : Int) == -1) = false from rfl, cond_false, show ((41 : Int) == 41) = true from rfl, cond_true, toB_ofB]
              try dsimp only
              rw [w64_ix (by omega)]
            · rw [urlK_at s hs v j w4, show min (j + 1) s.length = j + 1 from by omega]
          | false =>
            obtain ⟨e, b1, b2, b3, b4⟩ := bad_eq m s hs hm hm2 j w4
            rw [Bool.not_false, cond_true, cond_true, cond_true, b1, b2, Option.bind_some, Option.bind_some, Option.bind_some]
            exact ⟨btok, e, _, rfl, rfl, rfl, by omega, b4⟩
        · obtain ⟨k, rfl⟩ : ∃ k, kk = k + 1 := ⟨kk - 1, by omega⟩
          rw [ge_dec (by omega), chk_pos (fun h => by cases h), lt_eq, cond_false, cond_false, url_last m s hs k j v w4 (Or.inr (by omega)), pk_end (by omega), show ((-1 : Int) != -1) = false from rfl, show ((-1 : Int) != 41) = true from rfl, cond_true, cond_false, Option.bind_some]
          refine ⟨TToken.mk 7 v 0 [] false, j, _, ?_, rfl, ?_, by omega, w4⟩
          · rw [sumK_inr]
            try dsimp only
            rw [show ((-1 : Int) == -1) = true from rfl, cond_true, toB_ofB]
          · rw [urlK_at s hs v j w4, show min (j + 1) s.length = j from by omega]
      | false =>
        have hpa := pk_at hlt (-1)
        rw [cond_false, Option.bind_some, sumK_inr]
        try dsimp only
        rw [hpa, show (((s[i].toNat : Nat) : Int) == -1) = false from beq_eq_false_iff_ne.2 (by omega), cond_false]
        rw [bat_at hlt] at h41 h92 ⊢
        rw [h41]
        cases h4 : isb 41 s[i] with
        | true =>
          rw [cond_true, Bool.not_true, cond_false]
          refine ⟨TToken.mk 7 v 0 [] false, i + 1, _, ?_, rfl, ?_, by omega, hlt⟩
          · rw [toB_ofB, w64_ix (by omega)]
          · rw [urlK_at s hs v i hi, show min (i + 1) s.length = i + 1 from by omega]
        | false =>
          rw [cond_false, Bool.not_false, cond_true, cond_false]
          have hU := unp_at (n := s[i].toNat) s[i].toNat_lt
          rw [lt_eq, lt_eq, lt_eq, lt_eq, lt_eq, hU]
          rw [show cond (cond (cond (((s[i].toNat : Nat) : Int) == 34) true (((s[i].toNat : Nat) : Int) == 39)) true (((s[i].toNat : Nat) : Int) == 40)) true (r02_Unprintable ((s[i].toNat : Nat) : Int)) = unp ((s[i].toNat : Nat) : Int) from rfl]
          cases hu : unp ((s[i].toNat : Nat) : Int) with
          | true =>
            obtain ⟨e, b1, b2, b3, b4⟩ := bad_eq m s hs hm hm2 i hi
            rw [cond_true, lt_eq, cond_true, Option.bind_some, lt_eq]
            repeat rw [cond_true]
            rw [b1, b2, Option.bind_some, Option.bind_some]
            exact ⟨btok, e, _, rfl, rfl, rfl, b3, b4⟩
          | false =>
            rw [cond_false, lt_eq, cond_false, show (((s[i].toNat : Nat) : Int) != 92) = !(isb 92 s[i]) from by rw [← h92]; rfl, h92]
            have hesc := esc_t s i 0 (by omega)
            rw [show ((0 : Nat) : Int) = 0 from rfl, Nat.add_zero] at hesc
            cases h9 : isb 92 s[i] with
            | false =>
              rw [Bool.not_false, cond_true, cond_false, Option.bind_some, lt_eq]
              repeat rw [cond_false]
              rw [wu8_id (by omega) (by omega), w64_ix (by omega), chk_pos (by unfold ln; rw [ofB_len]; simp only [List.length_cons, List.length_nil]; omega), chk_pos (by unfold ln; omega), sub_byte hlt, chk_pos (by unfold ln; simp only [List.length_cons, List.length_nil]; omega)]
              obtain ⟨t, e, z, f1, f2, f3, f4, f5⟩ := ih (i + 1) (v ++ [s[i]]) (by omega) hlt (by rw [List.length_append, List.length_cons, List.length_nil]; omega)
              have e1 : ofB [s[i]] = [((s[i].toNat : Nat) : Int)] := rfl
              rw [ofB_app, e1] at f1
              exact ⟨t, e, z, f1, f2, f3, by omega, f5⟩
            | true =>
              rw [Bool.not_true, cond_false, cond_true, hesc, esc_r s i (by omega), Option.bind_some, Option.bind_some, lt_eq]
              repeat rw [cond_false]
              repeat rw [cond_true]
              cases esc s i with
              | true =>
                obtain ⟨E, j, e1, e2, e3, e4, e5, e6⟩ := escaped_eq m s i v hs hm hlt (by omega)
                rw [cond_true, Bool.not_true, cond_false, e1, e2, Option.bind_some, Option.bind_some]
                try dsimp only
                rw [chk_pos (by unfold ln; omega)]
                obtain ⟨t, e, z, f1, f2, f3, f4, f5⟩ := ih j (v ++ E) (by omega) e4 (by rw [List.length_append]; omega)
                exact ⟨t, e, z, f1, f2, f3, by omega, f5⟩
              | false =>
                obtain ⟨e, b1, b2, b3, b4⟩ := bad_eq m s hs hm hm2 i hi
                rw [cond_false, Bool.not_false, cond_true, b1, b2, Option.bind_some, Option.bind_some]
                exact ⟨btok, e, _, rfl, rfl, rfl, b3, b4⟩
    · have hie : i = s.length := by omega
      rw [space_t, tst_end _ (by omega), cond_false, Option.bind_some, pk_end (by omega), ge_dec (by omega), chk_pos (fun h => by cases h), lt_eq, cond_false, cond_false]
      refine ⟨_, i, _, rfl, rfl, ?_, Nat.le_refl _, hi⟩
      rw [urlK_at s hs v i hi, toB_ofB, show min (i + 1) s.length = i from by omega]
theorem url_eq (m : Nat) (s : Str) (hs : s.length < 100000) (hm : 10 < m) (hm2 : s.length + 1 < m) (i : Nat) (hi : i ≤ s.length) :
    ∃ (t : TToken) (e : Nat), token_scanner_url m s (i : Int) = some (t, (e : Int)) ∧ r02_url m s (i : Int) = some (t, (e : Int)) ∧ i ≤ e ∧ e ≤ s.length := by
  obtain ⟨j, w1, w2, w3, w4, w5, w6⟩ := whiles_eq m s hs (by omega) i hi
  obtain ⟨t, e, z, f1, f2, f3, f4, f5⟩ := urlL_eq m s hs hm (by omega) m j [] (by omega) w4 (by simp)
  refine ⟨t, e, ?_, ?_, by omega, f5⟩
  · unfold token_scanner_url
    rw [w1, Option.bind_some]
    exact f1
  · unfold r02_url
    rw [w2, Option.bind_some, f2, Option.bind_some]
    exact f3
end Go.Proofs.YtfancfogkhclfaaGreatDoor

/-
  What a Replacer writes is the text, cleaned: plain Lean over the printed models. Nothing here is a statement of this claim.
-/
import Derived.Test.YtfancfogkhclfaaGreatDoorRPb
import Derived.Test.YtfancfogkhclfaaGreatDoorVP
set_option linter.unusedVariables false
set_option maxRecDepth 20000
set_option maxHeartbeats 4000000
namespace Go.Proofs.YtfancfogkhclfaaGreatDoor
open Go.V Go.RowKit
/-- What a byte leaves. -/
def cleanB (c : UInt8) : Str := if c = 13 ∨ c = 12 then [10] else if c = 0 then [239, 191, 189] else [c]
/-- The text, cleaned; 'p': a CR stands ahead. -/
def cleanS : Bool → Str → Str
  | _, [] => []
  | p, c :: r => if p = true ∧ c = 10 then cleanS false r else cleanB c ++ cleanS (decide (c = 13)) r
theorem cleanS_app (c : UInt8) (r : Str) : cleanS false (c :: r) = cleanB c ++ cleanS (decide (c = 13)) r := by simp [cleanS]
theorem cleanS_tf : ∀ {r : Str}, (∀ r2, r ≠ 10 :: r2) → cleanS true r = cleanS false r
  | [], _ => rfl
  | c :: r, h => by
    have : c ≠ 10 := fun e => h r (by rw [e])
    simp [cleanS, this]
theorem sub_to_end (s : Str) (i : Nat) (h : i ≤ s.length) : sub s (i : Int) (ln s) = s.drop i := by
  simp only [sub, ln, Int.toNat_natCast]
  rw [List.take_of_length_le (by simp)]
theorem sub_nat (s : Str) (i j : Nat) : sub s (i : Int) (j : Int) = (s.drop i).take (j - i) := by simp [sub]
theorem ofB_append (a c : Str) : ofB (a ++ c) = ofB a ++ ofB c := by simp [ofB]
theorem hp_nil : rp_HasPrefix [] [10] = some false := by kernel_rfl
theorem hp_cons (d : UInt8) (r : Str) : rp_HasPrefix (d :: r) [10] = some (d == 10) := by
  have e : (ln ([10] : Str)) ≤ ln (d :: r) := by simp [ln]; omega
  unfold rp_HasPrefix rp_HasPrefix0
  rw [chk_pos (by intro _; exact ⟨by decide, e⟩), lt_eq, decide_eq_true e]
  simp [sub, ln]
theorem lk_nil : strings_genericReplacer_lookup [] = some ([], 0, false) := rfl
theorem sub1 (c : UInt8) (r : Str) : sub (c :: r) 1 (ln (c :: r)) = r := by
  have := sub_to_end (c :: r) 1 (by simp)
  simpa using this
theorem lk_12 (r : Str) : strings_genericReplacer_lookup (12 :: r) = some ([10], 1, true) := by
  unfold strings_genericReplacer_lookup
  rw [bFe (show ((12 :: r : Str) == []) = false from rfl), chk_pos ⟨by omega, by simp [ln] <;> omega⟩, bFe (show decide (bat (12 :: r) 0 = 13) = false from rfl), bTe (show decide (bat (12 :: r) 0 = 12) = true from rfl), chk_pos ⟨by omega, by simp [ln] <;> omega⟩]
  cases (sub (12 :: r) 1 (ln (12 :: r)) == []) <;> rfl
theorem lk_0 (r : Str) : strings_genericReplacer_lookup (0 :: r) = some ([239, 191, 189], 1, true) := by
  unfold strings_genericReplacer_lookup
  rw [bFe (show ((0 :: r : Str) == []) = false from rfl), chk_pos ⟨by omega, by simp [ln] <;> omega⟩, bFe (show decide (bat (0 :: r) 0 = 13) = false from rfl), bFe (show decide (bat (0 :: r) 0 = 12) = false from rfl), bFe (show decide (bat (0 :: r) 0 = 10) = false from rfl), bTe (show decide (bat (0 :: r) 0 = 0) = true from rfl), chk_pos ⟨by omega, by simp [ln] <;> omega⟩]
  cases (sub (0 :: r) 1 (ln (0 :: r)) == []) <;> rfl
theorem lk_13a : strings_genericReplacer_lookup [13] = some ([10], 1, true) := by kernel_rfl
theorem lk_13b (r : Str) : strings_genericReplacer_lookup (13 :: 10 :: r) = some ([10], 2, true) := by
  unfold strings_genericReplacer_lookup
  rw [bFe (show ((13 :: 10 :: r : Str) == []) = false from rfl), chk_pos ⟨by omega, by simp [ln] <;> omega⟩, bTe (show decide (bat (13 :: 10 :: r) 0 = 13) = true from rfl), chk_pos ⟨by omega, by simp [ln] <;> omega⟩, sub1,
    bFe (show ((10 :: r : Str) == []) = false from rfl), hp_cons]
  simp only [Option.bind_some]
  rw [bTe (show ((10 : UInt8) == 10) = true from rfl), chk_pos ⟨by omega, by simp [ln] <;> omega⟩, lt_eq, sub1]
  cases (r == []) <;> rfl
theorem lk_13c (d : UInt8) (r : Str) (h : d ≠ 10) : strings_genericReplacer_lookup (13 :: d :: r) = some ([10], 1, true) := by
  unfold strings_genericReplacer_lookup
  rw [bFe (show ((13 :: d :: r : Str) == []) = false from rfl), chk_pos ⟨by omega, by simp [ln] <;> omega⟩, bTe (show decide (bat (13 :: d :: r) 0 = 13) = true from rfl), chk_pos ⟨by omega, by simp [ln] <;> omega⟩, sub1,
    bFe (show ((d :: r : Str) == []) = false from rfl), hp_cons]
  simp only [Option.bind_some]
  rw [bFe (show (d == 10) = false from by simpa using h)]
/-- What a match is worth. -/
theorem lk_hit (c : UInt8) (r : Str) (hc : c = 13 ∨ c = 12 ∨ c = 0) : ∃ (v : Str) (k : Nat), strings_genericReplacer_lookup (c :: r) = some (v, (k : Int), true) ∧ 1 ≤ k ∧ k ≤ 2 ∧ k ≤ r.length + 1 ∧ v.length ≤ 3 ∧ cleanS false (c :: r) = v ++ cleanS false ((c :: r).drop k) := by
  rcases hc with rfl | rfl | rfl
  · cases r with
    | nil => exact ⟨[10], 1, lk_13a, by simp, by simp, by simp, by simp, rfl⟩
    | cons d r =>
      by_cases h : d = 10
      · subst h
        exact ⟨[10], 2, lk_13b r, by simp, by simp, by simp, by simp, by simp [cleanS, cleanB]⟩
      · refine ⟨[10], 1, lk_13c d r h, by simp, by simp, by simp, by simp, ?_⟩
        rw [cleanS_app, List.drop_one, List.tail_cons]
        show [10] ++ cleanS true (d :: r) = _
        rw [cleanS_tf (fun r2 e => h (by injection e))]
  · exact ⟨[10], 1, lk_12 r, by simp, by simp, by simp, by simp, by simp [cleanS, cleanB]⟩
  · exact ⟨[239, 191, 189], 1, lk_0 r, by simp, by simp, by simp, by simp, by simp [cleanS, cleanB]⟩
theorem ws_eq (w : List Int) (t : Str) (h : w.length + t.length ≤ 1099511627776) : strings_appendSliceWriter_WriteString w t = some (ln t, w ++ ofB t) := by
  unfold strings_appendSliceWriter_WriteString
  rw [chk_pos (by unfold ln; omega), lt_eq]
theorem bat_drop (s : Str) (i : Nat) (h : i < s.length) : bat s (i : Int) = ((s[i]).toNat : Int) := bat_nat s i h
theorem u8_dec (c : UInt8) (n : Nat) (hn : n < 256) : decide ((c.toNat : Int) = (n : Int)) = decide (c = UInt8.ofNat n) := by
  have : ((c.toNat : Int) = (n : Int)) ↔ c = UInt8.ofNat n := by
    constructor
    · intro h
      have : c.toNat = n := by omega
      rw [← this]; simp
    · intro h
      subst h
      simp [Nat.mod_eq_of_lt hn]
  exact decide_eq_decide.2 this
theorem d13 (c : UInt8) : decide ((c.toNat : Int) = 13) = decide (c = 13) := u8_dec c 13 (by omega)
theorem d12 (c : UInt8) : decide ((c.toNat : Int) = 12) = decide (c = 12) := u8_dec c 12 (by omega)
theorem d10 (c : UInt8) : decide ((c.toNat : Int) = 10) = decide (c = 10) := u8_dec c 10 (by omega)
theorem d0 (c : UInt8) : decide ((c.toNat : Int) = 0) = decide (c = 0) := u8_dec c 0 (by omega)
theorem take_step (s : Str) (l i : Nat) (hl : l ≤ i) (hi : i < s.length) : (s.drop l).take (i + 1 - l) = (s.drop l).take (i - l) ++ [s[i]] := by
  rw [show i + 1 - l = (i - l) + 1 from by omega, List.take_succ_eq_append_getElem (by simp; omega)]
  congr 2
  rw [List.getElem_drop]
  congr 1
  omega
theorem L1_spec (m : Nat) (s : Str) (hs : s.length ≤ 1000000) : ∀ (kk i l : Nat) (n : Int) (B : List Int), l ≤ i → i ≤ s.length + 1 → l ≤ s.length → s.length + 2 - i ≤ kk → B.length ≤ 3 * l →
    ∃ (n' : Int) (l' : Nat) (B' : List Int), strings_genericReplacer_WriteString_L1 m s kk n (l : Int) false (i : Int) B = some (.inr (n', (l' : Int), B')) ∧ l' ≤ s.length ∧ B'.length ≤ 3 * l' ∧
      B' ++ ofB (s.drop l') = B ++ ofB ((s.drop l).take (i - l)) ++ ofB (cleanS false (s.drop i)) := by
  intro kk
  induction kk with
  | zero => intro i l n B h1 h2 h3 h4; omega
  | succ kk ih =>
    intro i l n B h1 h2 h3 h4 h5
    have goto : ∀ (q : Nat), i ≤ s.length → q = i + 1 → w64 ((i : Int) + 1) = ((q : Nat) : Int) := fun q hq e => by rw [w64_id (by omega) (by omega), e]; omega
    rw [strings_genericReplacer_WriteString_L1, chk_pos rfl]
    by_cases hlen : i ≤ s.length
    · rw [bTe (decide_eq_true (by unfold ln; omega))]
      by_cases he : i = s.length
      · -- the end
        subst he
        rw [bFe (show cond ((s.length : Int) != ln s) true false = false from by simp [ln])]
        simp only [Option.bind_some, sumK]
        rw [chk_pos ⟨by omega, by unfold ln; omega⟩, sub_to_end _ _ (Nat.le_refl _), List.drop_length, lk_nil]
        simp only [Option.bind_some]
        rw [chk_pos (show (cond false ((0 : Int) == 0) false) = false from rfl), bFe rfl, goto _ (Nat.le_refl _) rfl]
        obtain ⟨n', l', B', e1, e2, e3, e4⟩ := ih (s.length + 1) l n B (by omega) (by omega) h3 (by omega) h5
        refine ⟨n', l', B', e1, e2, e3, ?_⟩
        rw [e4]
        rw [List.take_of_length_le (by simp; omega), List.take_of_length_le (by simp), List.drop_eq_nil_of_le (show s.length ≤ s.length + 1 from by omega)]
      · have hi : i < s.length := by omega
        rw [bTe (show cond ((i : Int) != ln s) true false = true from by simp [ln]; omega), chk_pos ⟨by omega, by unfold ln; omega⟩, bat_drop s i hi, d13, d12, d10, d0]
        have hd : s.drop i = s[i] :: s.drop (i + 1) := List.drop_eq_getElem_cons hi
        -- what is written as it is
        have plain : s[i] ≠ 13 → s[i] ≠ 12 → s[i] ≠ 0 → ∃ (n' : Int) (l' : Nat) (B' : List Int), strings_genericReplacer_WriteString_L1 m s kk n (l : Int) false (w64 ((i : Int) + 1)) B = some (.inr (n', (l' : Int), B')) ∧ l' ≤ s.length ∧ B'.length ≤ 3 * l' ∧
            B' ++ ofB (s.drop l') = B ++ ofB ((s.drop l).take (i - l)) ++ ofB (cleanS false (s.drop i)) := fun a b c => by
          rw [goto _ hlen rfl]
          obtain ⟨n', l', B', e1, e2, e3, e4⟩ := ih (i + 1) l n B (by omega) (by omega) h3 (by omega) h5
          refine ⟨n', l', B', e1, e2, e3, ?_⟩
          rw [e4, take_step s l i h1 hi, hd, cleanS_app]
          simp [cleanB, a, b, c, ofB_append]
          rfl
        -- what is found
        have hit : (s[i] = 13 ∨ s[i] = 12 ∨ s[i] = 0) → ∃ (n' : Int) (l' : Nat) (B' : List Int), (chk (0 ≤ (i : Int) ∧ (i : Int) ≤ ln s) <|
            Option.bind (strings_genericReplacer_lookup (sub s (i : Int) (ln s))) fun y56 =>
            chk ((cond y56.2.2 (y56.2.1 == 0) false) = false) <|
            cond y56.2.2 (
            chk (0 ≤ (l : Int) ∧ (l : Int) ≤ (i : Int) ∧ (i : Int) ≤ ln s) <|
            Option.bind (strings_appendSliceWriter_WriteString B (sub s (l : Int) (i : Int))) fun y66 =>
            Option.bind (strings_appendSliceWriter_WriteString y66.2 y56.1) fun y79 =>
            strings_genericReplacer_WriteString_L1 m s kk (w64 ((w64 (n + y66.1)) + y79.1)) (w64 ((i : Int) + y56.2.1)) false (w64 ((i : Int) + y56.2.1)) y79.2) (
            strings_genericReplacer_WriteString_L1 m s kk n (l : Int) false (w64 ((i : Int) + 1)) B)) = some (.inr (n', (l' : Int), B')) ∧ l' ≤ s.length ∧ B'.length ≤ 3 * l' ∧
            B' ++ ofB (s.drop l') = B ++ ofB ((s.drop l).take (i - l)) ++ ofB (cleanS false (s.drop i)) := fun hc => by
          obtain ⟨v, k, a1, a2, a3, a4, a5, a6⟩ := lk_hit s[i] (s.drop (i + 1)) hc
          rw [chk_pos ⟨by omega, by unfold ln; omega⟩, sub_to_end _ _ hlen, hd, a1]
          simp only [Option.bind_some]
          rw [chk_pos (by show ((k : Int) == 0) = false; simp; omega), bTe rfl, chk_pos ⟨by omega, by omega, by unfold ln; omega⟩, sub_nat,
            ws_eq _ _ (by simp; omega)]
          simp only [Option.bind_some]
          rw [ws_eq _ _ (by simp [ofB]; omega)]
          simp only [Option.bind_some]
          have hk : k ≤ s.length - i := by have := List.length_drop (i := i + 1) (l := s); omega
          rw [show w64 ((i : Int) + (k : Int)) = ((i + k : Nat) : Int) from by rw [w64_id (by omega) (by omega)]; omega]
          obtain ⟨n', l', B', e1, e2, e3, e4⟩ := ih (i + k) (i + k) _ (B ++ ofB ((s.drop l).take (i - l)) ++ ofB v) (Nat.le_refl _) (by omega) (by omega) (by omega) (by simp [ofB]; omega)
          refine ⟨n', l', B', e1, e2, e3, ?_⟩
          rw [e4, a6]
          simp only [Nat.sub_self, List.take_zero, ofB_append]
          have hd2 : (s[i] :: s.drop (i + 1)).drop k = s.drop (i + k) := by rw [← hd, List.drop_drop]
          rw [hd2]
          simp [ofB]
        by_cases c13 : s[i] = 13
        · rw [bTe (decide_eq_true c13)]
          simp only [Option.bind_some, sumK]
          exact hit (.inl c13)
        · rw [bFe (decide_eq_false c13)]
          by_cases c12 : s[i] = 12
          · rw [bTe (decide_eq_true c12)]
            simp only [Option.bind_some, sumK]
            exact hit (.inr (.inl c12))
          · rw [bFe (decide_eq_false c12)]
            by_cases c10 : s[i] = 10
            · rw [bTe (decide_eq_true c10)]
              obtain ⟨n', l', B', e1, e2⟩ := plain c13 c12 (by rw [c10]; decide)
              rw [e1]
              exact ⟨n', l', B', rfl, e2⟩
            · rw [bFe (decide_eq_false c10)]
              by_cases c0 : s[i] = 0
              · rw [bTe (decide_eq_true c0)]
                simp only [Option.bind_some, sumK]
                exact hit (.inr (.inr c0))
              · rw [bFe (decide_eq_false c0)]
                obtain ⟨n', l', B', e1, e2⟩ := plain c13 c12 c0
                rw [e1]
                exact ⟨n', l', B', rfl, e2⟩
    · rw [bFe (decide_eq_false (by unfold ln; omega))]
      refine ⟨n, l, B, rfl, h3, h5, ?_⟩
      rw [List.take_of_length_le (by simp; omega), List.drop_eq_nil_of_le (by omega : s.length ≤ i)]
      simp [cleanS, ofB]
theorem toB_of (s : Str) : toB (ofB s) = s := by
  simp only [toB, ofB, List.map_map]
  conv => rhs; rw [← List.map_id s]
  apply List.map_congr_left
  intro c _
  simp
theorem clean_eq (s : Str) (hs : s.length ≤ 1000000) (m : Nat) (hm : s.length + 2 ≤ m) : strings_genericReplacer_Replace m s = some (cleanS false s) := by
  unfold strings_genericReplacer_Replace strings_genericReplacer_WriteString
  rw [chk_pos ⟨by omega, by unfold ln; omega, by unfold ln; omega⟩, lt_eq]
  obtain ⟨n', l', B', e1, e2, e3, e4⟩ := L1_spec m s hs m 0 0 0 [] (Nat.le_refl _) (by omega) (by omega) (by omega) (by simp)
  have e1' : strings_genericReplacer_WriteString_L1 m s m 0 0 false 0 (List.replicate (0 : Int).toNat 0) = some (.inr (n', (l' : Int), B')) := e1
  rw [e1']
  simp only [Option.bind_some, sumK]
  simp only [List.take_zero, List.drop_zero, Nat.sub_self, List.nil_append, ofB, List.map_nil] at e4
  by_cases h : l' = s.length
  · subst h
    rw [bFe (by simp [ln])]
    simp only [Option.bind_some]
    simp at e4
    rw [e4]
    exact congrArg some (toB_of _)
  · rw [bTe (by simp [ln]; omega), chk_pos ⟨by omega, by unfold ln; omega⟩, sub_to_end _ _ e2, ws_eq _ _ (by simp; omega)]
    simp only [Option.bind_some]
    have e5 : B' ++ ofB (s.drop l') = ofB (cleanS false s) := e4
    rw [e5]
    exact congrArg some (toB_of _)
end Go.Proofs.YtfancfogkhclfaaGreatDoor

/-
  Values as text: names of colours, and the law of what is written. No program in sight.
-/
import Derived.Test.YtemchjneoalnoaaDoorN3
set_option linter.unusedVariables false
set_option maxRecDepth 100000
namespace Go.Proofs.YtemchjneoalnoaaDoor
open Go Go.V Go.RowKit
theorem u8_up (x : Int) : wu8 (wu8 (x + 97) - 65) = wu8 (x + 32) := by rw [wu8_mod, wu8_mod, wu8_mod]; omega
theorem small_L1 (m : Nat) (s : Str) : ∀ (kk : Nat) (i : Int) (l : List Int), parseval_small_L1 m s kk i l = r26_Small_L1 m s kk i l := by
  intro kk
  induction kk with
  | zero => intro i l; rfl
  | succ kk ih =>
    intro i l
    rw [parseval_small_L1, r26_Small_L1]
    simp only [ih, u8_up]
theorem small_eq (m : Nat) (s : Str) : parseval_small m s = r26_Small m s := by
  unfold parseval_small r26_Small
  rw [small_L1]
theorem small_tot (m : Nat) (s : Str) (hs : s.length ≤ 1000000) : ∀ (kk i : Nat) (l : List Int), s.length - i < kk → i ≤ s.length → ∃ r, r26_Small_L1 m s kk (i : Int) l = some r := by
  intro kk
  induction kk with
  | zero => intro i l h; omega
  | succ kk ih =>
    intro i l hk hi
    have hl : (ofB s).length = s.length := List.length_map ..
    rw [r26_Small_L1]
    by_cases hlt : i < s.length
    · have hlt2 : i < (ofB s).length := by omega
      rw [lt_dec hlt2, cond_true, chk_ix hlt2, lt_eq, w64_ix (by omega)]
      cases cond (decide (65 ≤ gi l (i : Int))) (decide (gi l (i : Int) ≤ 90)) false with
      | true => exact ih (i + 1) _ (by omega) hlt
      | false => exact ih (i + 1) _ (by omega) hlt
    · rw [ge_dec (by omega), cond_false]
      exact ⟨_, rfl⟩
theorem small_some (s : Str) (hs : s.length ≤ 200) : ∃ y, parseval_small 300 s = some y ∧ r26_Small 300 s = some y := by
  obtain ⟨r, hr⟩ := small_tot 300 s (by omega) 300 0 (ofB s) (by omega) (by omega)
  have h : r26_Small 300 s = some (toB r) := by
    unfold r26_Small
    rw [show r26_Small_L1 300 s 300 0 (ofB s) = _ from hr]; rfl
  exact ⟨toB r, (small_eq 300 s).trans h, h⟩
theorem named_L1 (m : Nat) (s y : Str) (hy : r26_Small m s = some y) (ls : List Str) (cs : List TColor) (hl : ls.length = cs.length) (hl2 : ls.length ≤ 1000) : ∀ (kk i : Nat), ls.length - i < kk → i ≤ ls.length →
    r26_Named_L1 m s ls cs kk (i : Int) = some (cond (decide (i + kx (ls.drop i) y < ls.length)) (.inl (gi cs ((i + kx (ls.drop i) y : Nat) : Int), 0)) (.inr ())) := by
  intro kk
  induction kk with
  | zero => intro i h; omega
  | succ kk ih =>
    intro i hk hi
    rw [r26_Named_L1]
    by_cases hlt : i < ls.length
    · have hlt2 : i < cs.length := by omega
      rw [lt_dec hlt, cond_true, chk_ix hlt, hy, Option.bind_some, gi_nat ls i hlt, List.drop_eq_getElem_cons hlt, kx]
      cases hc : (ls[i] == y) with
      | true =>
        have he : (y == ls[i]) = true := by rw [eq_of_beq hc]; exact beq_self_eq_true _
        rw [cond_true, chk_ix hlt2, he, if_pos rfl, Nat.add_zero, decide_eq_true hlt, cond_true]
      | false =>
        have he : (y == ls[i]) = false := beq_eq_false_iff_ne.2 fun h => by rw [h, beq_self_eq_true] at hc; cases hc
        rw [cond_false, he, w64_ix (by omega), ih (i + 1) (by omega) hlt, if_neg (by decide), show i + 1 + kx (ls.drop (i + 1)) y = i + (kx (ls.drop (i + 1)) y + 1) by omega]
    · rw [ge_dec (by omega), cond_false, decide_eq_false (by omega), cond_false]
def KEYS : List Str := [[98, 108, 97, 99, 107], [119, 104, 105, 116, 101], [114, 101, 100], [108, 105, 109, 101], [98, 108, 117, 101], [121, 101, 108, 108, 111, 119], [103, 114, 97, 121], [116, 114, 97, 110, 115, 112, 97, 114, 101, 110, 116]]
/-- What the table of names says at a place. -/
def nmP (x : Int) : Option (TColor × Int) := cond (!(decide (x < 8))) (some (TColor.mk 0 0 0 0, 6)) (some (TColor.mk (gi ([0, 255, 255, 0, 0, 255, 128, 0, 0] : List Int) x) (gi ([0, 255, 0, 255, 0, 255, 128, 0, 0] : List Int) x) (gi ([0, 255, 0, 0, 255, 0, 128, 0, 0] : List Int) x) (gi ([255, 255, 255, 255, 255, 255, 255, 0, 0] : List Int) x), 0))
theorem named_p (s y : Str) (h : parseval_small 300 s = some y) : parseval_Named 300 s = nmP (x_key KEYS y) := by
  unfold parseval_Named
  rw [h]
  rfl
theorem named_r (s y : Str) (h : r26_Small 300 s = some y) : r26_Named 300 s = Option.bind (some (cond (decide (kx KEYS y < 8)) (Sum.inl (gi r26_colors ((kx KEYS y : Nat) : Int), (0 : Int))) (Sum.inr ()))) fun (z : Sum (TColor × Int) Unit) => sumK z fun _ => some (TColor.mk 0 0 0 0, (6 : Int)) := by
  have hr := named_L1 300 s y h r26_names r26_colors rfl (by decide) 300 0 (by decide) (by decide)
  rw [List.drop_zero, Nat.zero_add] at hr
  unfold r26_Named
  rw [lt_eq, lt_eq, show r26_Named_L1 300 s r26_names r26_colors 300 0 = _ from hr]
  rfl
theorem named_both (s : Str) (hs : s.length ≤ 200) : ∃ c : TColor × Int, parseval_Named 300 s = some c ∧ r26_Named 300 s = some c := by
  obtain ⟨y, h1, h2⟩ := small_some s hs
  have hk := kx_le KEYS y
  rw [show KEYS.length = 8 from rfl] at hk
  rw [named_p s y h1, named_r s y h2]
  unfold x_key
  generalize kx KEYS y = n at hk
  rcases (by omega : n = 0 ∨ n = 1 ∨ n = 2 ∨ n = 3 ∨ n = 4 ∨ n = 5 ∨ n = 6 ∨ n = 7 ∨ n = 8) with h | h | h | h | h | h | h | h | h <;> subst h <;> exact ⟨_, rfl, rfl⟩
theorem u8_nat {x : Int} (h : (Lit.int .u8 x).wf = true) : ∃ n : Nat, x = (n : Int) ∧ n < 256 := by
  have h0 : IntKind.u8.min ≤ x ∧ x ≤ IntKind.u8.max := by simpa [Lit.wf] using h
  have h1 : 0 ≤ x ∧ x ≤ 255 := ⟨(show IntKind.u8.min = 0 by decide) ▸ h0.1, (show IntKind.u8.max = 255 by decide) ▸ h0.2⟩
  exact ⟨x.toNat, by omega, by omega⟩
abbrev WfC (x : TColor) : Prop := (Lit.int .u8 x.Red).wf = true ∧ (Lit.int .u8 x.Green).wf = true ∧ (Lit.int .u8 x.Blue).wf = true ∧ (Lit.int .u8 x.Alpha).wf = true
abbrev WfV (x : TVal) : Prop := (Lit.int .u8 x.Kind).wf = true ∧ x.Word.length ≤ maxLen ∧ (Lit.int .i64 x.Num).wf = true ∧ WfC x.Color
theorem shown_c (c : TColor) (w : WfC c) : ∃ s, parseval_Shown 300 c = some s ∧ r26_Shown 300 c = some s := by
  obtain ⟨r, g, b, a⟩ := c
  obtain ⟨w1, w2, w3, w4⟩ := w
  obtain ⟨r', e1, h1⟩ := u8_nat w1
  obtain ⟨g', e2, h2⟩ := u8_nat w2
  obtain ⟨b', e3, h3⟩ := u8_nat w3
  obtain ⟨a', e4, h4⟩ := u8_nat w4
  dsimp only at e1 e2 e3 e4
  subst e1 e2 e3 e4
  exact shown_both r' g' b' a' h1 h2 h3 h4
theorem write_both (v : TVal) (w : WfV v) : ∃ p : Str × Int, parseval_Write 300 v = some p ∧ r26_Write 300 v = some p := by
  obtain ⟨e, h1, h2⟩ := check_some v
  have hW : r26_Write 300 v = cond (e != 0) (some (([] : Str), e)) (Option.bind (r26_Text 300 v) fun y => some (y, (0 : Int))) := by
    unfold r26_Write
    rw [h2]
    rfl
  unfold parseval_Write
  rw [h1, Option.bind_some, hW]
  cases he : (e != 0) with
  | true => exact ⟨_, rfl, rfl⟩
  | false =>
    have e0 : e = 0 := by simpa using he
    subst e0
    rw [cond_false, cond_false]
    have ck : ∀ {α β : Type} (x : List α) (y : List β), x.length ≤ 2000 → y.length ≤ 1000 → ln x + ln y ≤ 9223372036854775807 := fun x y h1 h2 => by unfold ln; omega
    unfold r26_Text
    rcases check_num v h2 with hk | hk | hk | ⟨hk, n1, n2⟩ | ⟨hk, n1, n2⟩
    · rw [hk]; exact ⟨_, rfl, rfl⟩
    · obtain ⟨s, s1, s2⟩ := shown_c v.Color w.2.2.2
      rw [hk]
      refine ⟨(s, 0), ?_, ?_⟩
      · show Option.bind (Option.bind (Option.bind (parseval_Shown 300 v.Color) _) _) _ = _
        rw [s1]; rfl
      · show Option.bind (Option.bind (r26_Shown 300 v.Color) _) _ = _
        rw [s2]; rfl
    · rw [hk]; exact ⟨_, rfl, rfl⟩
    · have hw : w64 (v.Num * 1000) = v.Num * 1000 := w64_id (by omega) (by omega)
      have hw2 : w64 (1000 * v.Num) = v.Num * 1000 := by rw [w64_id (by omega) (by omega)]; omega
      obtain ⟨s, s1, s2, s3⟩ := num_both (n := v.Num * 1000) (by omega) (by omega)
      rw [hk]
      refine ⟨(s, 0), ?_, ?_⟩
      · show Option.bind (parseval_number (w64 (v.Num * 1000))) (fun y62 => chk (ln y62 + ln ([] : Str) ≤ 9223372036854775807) (some (y62 ++ ([] : Str), (0 : Int)))) = _
        rw [hw, s1, Option.bind_some, chk_pos (ck _ _ (by omega) (by decide)), List.append_nil]
      · show Option.bind (Option.bind (r26_Thousandths 300 (w64 (1000 * v.Num))) _) _ = _
        rw [hw2, s2]; rfl
    · obtain ⟨s, s1, s2, s3⟩ := num_both n1 n2
      rcases hk with hk | hk | hk | hk
      · rw [hk]
        refine ⟨(s ++ [112, 120], 0), ?_, ?_⟩
        · show Option.bind (parseval_number v.Num) (fun y62 => chk (ln y62 + ln ([112, 120] : List Nat) ≤ 9223372036854775807) (some (y62 ++ ([112, 120] : Str), (0 : Int)))) = _
          rw [s1, Option.bind_some, chk_pos (ck _ _ (by omega) (by decide))]
        · show Option.bind (Option.bind (r26_Thousandths 300 v.Num) (fun y14 => chk (ln y14 + ln ([112, 120] : List Nat) ≤ 9223372036854775807) (some (y14 ++ ([112, 120] : Str))))) (fun y13 => some (y13, (0 : Int))) = _
          rw [s2, Option.bind_some, chk_pos (ck _ _ (by omega) (by decide))]; rfl
      · rw [hk]
        refine ⟨(s ++ [101, 109], 0), ?_, ?_⟩
        · simp only [show ((3 : Int) == 1) = false from rfl, show ((3 : Int) == 7) = false from rfl, show ((3 : Int) == 8) = false from rfl, show ((3 : Int) == 4) = false from rfl, show ((3 : Int) == 3) = true from rfl, cond_false, cond_true, Option.bind_some, sumK]
          rw [chk_pos (by decide), Option.bind_some]
          simp only [sumK]
          rw [s1, Option.bind_some, chk_pos (ck _ _ (by omega) (by decide))]
          rfl
        · show Option.bind (Option.bind (r26_Thousandths 300 v.Num) (fun y14 => chk (ln y14 + ln ([101, 109] : List Nat) ≤ 9223372036854775807) (some (y14 ++ ([101, 109] : Str))))) (fun y13 => some (y13, (0 : Int))) = _
          rw [s2, Option.bind_some, chk_pos (ck _ _ (by omega) (by decide))]; rfl
      · rw [hk]
        refine ⟨(s ++ [114, 101, 109], 0), ?_, ?_⟩
        · simp only [show ((4 : Int) == 1) = false from rfl, show ((4 : Int) == 7) = false from rfl, show ((4 : Int) == 8) = false from rfl, show ((4 : Int) == 4) = true from rfl, cond_false, cond_true, Option.bind_some, sumK]
          rw [chk_pos (by decide), Option.bind_some]
          simp only [sumK]
          rw [s1, Option.bind_some, chk_pos (ck _ _ (by omega) (by decide))]
          rfl
        · show Option.bind (Option.bind (r26_Thousandths 300 v.Num) (fun y14 => chk (ln y14 + ln ([114, 101, 109] : List Nat) ≤ 9223372036854775807) (some (y14 ++ ([114, 101, 109] : Str))))) (fun y13 => some (y13, (0 : Int))) = _
          rw [s2, Option.bind_some, chk_pos (ck _ _ (by omega) (by decide))]; rfl
      · rw [hk]
        refine ⟨(s, 0), ?_, ?_⟩
        · show Option.bind (parseval_number v.Num) (fun y62 => chk (ln y62 + ln ([] : Str) ≤ 9223372036854775807) (some (y62 ++ ([] : Str), (0 : Int)))) = _
          rw [s1, Option.bind_some, chk_pos (ck _ _ (by omega) (by decide)), List.append_nil]
        · show Option.bind (Option.bind (r26_Thousandths 300 v.Num) _) _ = _
          rw [s2]; rfl
theorem plain_ParsevalWrites (v : TVal) (c : TColor) (s : Str) (wv : WfV v) (wc : WfC c) {p : Prop} (_ : p) : law26_ParsevalWrites 300 v c s = some true := by
  unfold law26_ParsevalWrites
  rw [lt_eq]
  cases hc : cond (decide (200 < (ln v.Word))) true (decide (200 < (ln s))) with
  | true => rfl
  | false =>
    have hs : s.length ≤ 200 := by
      by_cases h : (200 : Int) < ln s
      · rw [decide_eq_true h] at hc
        cases h2 : decide (200 < ln v.Word) <;> rw [h2] at hc <;> cases hc
      · unfold ln at h; omega
    obtain ⟨⟨a, e⟩, w1, w2⟩ := write_both v wv
    obtain ⟨⟨⟨r, g, b, al⟩, f⟩, n1, n2⟩ := named_both s hs
    obtain ⟨t, t1, t2⟩ := shown_c c wc
    rw [cond_false, w1, Option.bind_some, w2, Option.bind_some, n1, Option.bind_some, n2, Option.bind_some]
    dsimp only
    simp only [beq_self_eq_true, lt_eq, cond_true, Bool.and_true, t1, t2, Option.bind_some]
end Go.Proofs.YtemchjneoalnoaaDoor

/-
  TokenNames: long rows of commas, and texts that are too long. No program in sight.
-/
import Derived.Test.YtfancfogkhclfaaGreatDoorW02b
import Derived.Test.YtfancfogkhclfaaGreatDoorVP
set_option maxRecDepth 20000
set_option linter.unusedVariables false
namespace Go.Proofs.YtfancfogkhclfaaGreatDoor
open Go.V Go.RowKit
/-- n commas. -/
def cm (n : Nat) : Str := List.replicate n 44
def ctok : TToken := TToken.mk 18 [] 0 [] false
theorem cm_len (n : Nat) : (cm n).length = n := by simp [cm]
theorem cm_ln (n : Nat) : ln (cm n) = (n : Int) := by simp [ln, cm_len]
theorem cm_sub (n i : Nat) (h : i ≤ n) : sub (cm n) (i : Int) (ln (cm n)) = cm (n - i) := by
  rw [sub_to_end _ _ (by rw [cm_len]; exact h)]; simp [cm]
theorem fill_step : ∀ (j i kk m : Nat), i + j = 1501 → law02_TokenNames_L1 m (kk + 1 + j) (List.replicate i (44 : Int) ++ List.replicate j 0) (i : Int) = some (List.replicate 1501 44)
  | 0, i, kk, m, h => by
    have e : i = 1501 := by omega
    subst e
    rw [Nat.add_zero, law02_TokenNames_L1, bFe (by decide)]; simp
  | j + 1, i, kk, m, h => by
    rw [show kk + 1 + (j + 1) = (kk + 1 + j) + 1 from rfl, law02_TokenNames_L1, bTe (decide_eq_true (by omega)), chk_pos ⟨by omega, by unfold ln; rw [List.length_append, List.length_replicate, List.length_replicate]; omega⟩, lt_eq, w64_ix (by omega)]
    have e : setl (List.replicate i (44 : Int) ++ List.replicate (j + 1) 0) (i : Int) 44 = List.replicate (i + 1) (44 : Int) ++ List.replicate j 0 := by
      unfold setl
      rw [Int.toNat_natCast, List.set_append, if_neg (by rw [List.length_replicate]; omega), List.length_replicate, Nat.sub_self, List.replicate_succ, List.set_cons_zero, List.replicate_succ', List.append_assoc]; rfl
    rw [e]
    exact fill_step j (i + 1) kk m (by omega)
theorem fill (m : Nat) (hm : 1502 ≤ m) : law02_TokenNames_L1 m m (List.replicate ((1501 : Int)).toNat (0 : Int)) 0 = some (List.replicate 1501 44) := by
  have h := fill_step 1501 0 (m - 1502) m rfl
  rw [show m - 1502 + 1 + 1501 = m from by omega] at h
  exact h
theorem hp_c (r : Str) (a : UInt8) (p : Str) (h : a ≠ 44) : strings_HasPrefix (44 :: r) (a :: p) = some false := by
  unfold strings_HasPrefix stringslite_HasPrefix
  rw [chk_pos (by intro h; exact ⟨by unfold ln; omega, of_decide_eq_true h⟩), lt_eq]
  cases e : decide (ln (a :: p) ≤ ln (44 :: r)) with
  | false => rfl
  | true =>
    rw [bTe rfl]
    have : (sub (44 :: r) 0 (ln (a :: p)) == a :: p) = false := by
      simp [sub, ln, List.take_succ_cons]
      intro h'; exact absurd h'.symm h
    rw [this]; rfl
theorem hp_n (a : UInt8) (p : Str) : strings_HasPrefix [] (a :: p) = some false := by
  unfold strings_HasPrefix stringslite_HasPrefix
  have e : ¬ (ln (a :: p) ≤ ln ([] : Str)) := by unfold ln; rw [List.length_cons, List.length_nil]; omega
  rw [chk_pos (by intro h; exact absurd (of_decide_eq_true h) e), lt_eq, bFe (decide_eq_false e)]; rfl
theorem cm_hp (n : Nat) (a : UInt8) (p : Str) (h : a ≠ 44) : strings_HasPrefix (cm n) (a :: p) = some false := by
  cases n with
  | zero => exact hp_n a p
  | succ n => exact hp_c _ a p h
theorem cm_peek (n i : Nat) (hn : n ≤ 4000) (h : i < n) : token_scanner_peek (cm n) (i : Int) 0 = some 44 := by
  have hw : w64 ((i : Int) + 0) = (i : Int) := by rw [Int.add_zero]; exact w64_id (by omega) (by omega)
  unfold token_scanner_peek
  rw [hw, cm_ln, bTe (decide_eq_true (by omega)), chk_pos ⟨by omega, by omega⟩, bat_nat _ _ (by rw [cm_len]; exact h)]
  have e : (cm n)[i]'(by rw [cm_len]; exact h) = 44 := by simp [cm]
  rw [e]; rfl
theorem cm_comments (n i m : Nat) (hn : n ≤ 4000) (h : i ≤ n) : token_scanner_comments (m + 1) (cm n) (i : Int) = some (i : Int) := by
  unfold token_scanner_comments
  rw [token_scanner_comments_L1, chk_pos ⟨by omega, by rw [cm_ln]; omega⟩, cm_sub n i h, cm_hp _ _ _ (by decide), Option.bind_some, bFe rfl]
theorem cm_escape (n i : Nat) (hn : n ≤ 4000) (h : i < n) : token_scanner_escape (cm n) (i : Int) 0 = some false := by
  unfold token_scanner_escape
  rw [cm_peek n i hn h]; rfl
theorem cm_name (n i : Nat) (hn : n ≤ 4000) (h : i < n) : token_scanner_name (cm n) (i : Int) 0 = some false := by
  unfold token_scanner_name
  rw [cm_peek n i hn h, cm_escape n i hn h]; kernel_rfl
theorem cm_number (n i : Nat) (hn : n ≤ 4000) (h : i < n) : token_scanner_number (cm n) (i : Int) = some false := by
  unfold token_scanner_number
  rw [cm_peek n i hn h, Option.bind_some, bFe (show cond ((44 : Int) == 43) true ((44 : Int) == 45) = false from rfl), Option.bind_some, cm_peek n i hn h, Option.bind_some, bFe (show ((44 : Int) == 46) = false from rfl), Option.bind_some, cm_peek n i hn h]; rfl
theorem cm_next (n i m : Nat) (hn : n ≤ 4000) (h : i < n) : token_scanner_next m (cm n) (i : Int) = some (ctok, ((i + 1 : Nat) : Int)) := by
  unfold token_scanner_next
  rw [cm_peek n i hn h, Option.bind_some, chk_pos ⟨by omega, by rw [cm_ln]; omega⟩, bFe (show token_space 44 = false from rfl), bFe (show cond ((44 : Int) == 34) true ((44 : Int) == 39) = false from rfl)]
  rw [bFe (show ((44 : Int) == 35) = false from rfl), Option.bind_some, bFe (show ((44 : Int) == 35) = false from rfl), Option.bind_some, lt_eq, bFe (show cond ((44 : Int) == 35) _ false = false from rfl)]
  rw [cm_number n i hn h, Option.bind_some, bFe rfl, cm_sub n i (by omega), cm_hp _ _ _ (by decide), Option.bind_some, bFe rfl, cm_hp _ _ _ (by decide), Option.bind_some, bFe rfl]
  rw [bFe (show ((44 : Int) == 64) = false from rfl), Option.bind_some, bFe (show cond ((44 : Int) == 64) _ false = false from rfl), cm_name n i hn h, Option.bind_some, bFe rfl, lt_eq]
  rw [show strings_IndexByte [58, 59, 44, 91, 93, 40, 41, 123, 125] (wu8 44) = 2 from by kernel_rfl, bTe (by decide), w64_ix (by omega)]
  rfl
theorem cm_step (n i m kk : Nat) (hn : n ≤ 4000) (h : i < n) (h' : i < 1500) :
    token_read_L1 (m + 1) (cm n, 0) (kk + 1) (i : Int) (i : Int) (List.replicate i ctok) = token_read_L1 (m + 1) (cm n, 0) kk ((i + 1 : Nat) : Int) ((i + 1 : Nat) : Int) (List.replicate (i + 1) ctok) := by
  rw [token_read_L1, bTe (decide_eq_true (by rw [cm_ln]; omega)), w64_ix (by omega), bFe (decide_eq_false (by omega)), cm_next n i (m + 1) hn h, Option.bind_some]
  unfold token_Tokens_1
  rw [chk_pos (by unfold ln; rw [List.length_replicate, List.length_singleton]; omega), lt_eq, Option.bind_some, cm_comments n (i + 1) m hn (by omega), Option.bind_some, ← List.replicate_succ']
theorem cm_run (n m kk : Nat) (hn : n ≤ 4000) (h : 1500 ≤ n) : ∀ (j i : Nat), i + j = 1500 →
    token_read_L1 (m + 1) (cm n, 0) (kk + j) (i : Int) (i : Int) (List.replicate i ctok) = token_read_L1 (m + 1) (cm n, 0) kk (1500 : Int) (1500 : Int) (List.replicate 1500 ctok)
  | 0, i, e => by
    have : i = 1500 := by omega
    subst this; rfl
  | j + 1, i, e => by
    rw [show kk + (j + 1) = (kk + j) + 1 from rfl, cm_step n i m (kk + j) hn (by omega) (by omega)]
    exact cm_run n m kk hn h j (i + 1) (by omega)
theorem cm_cleanS : ∀ n, cleanS false (cm n) = cm n
  | 0 => rfl
  | n + 1 => by
    show cleanS false (44 :: cm n) = 44 :: cm n
    rw [cleanS_app, show cleanB 44 = [44] from rfl, show decide ((44 : UInt8) = 13) = false from rfl, cm_cleanS n]; rfl
theorem cm_cleanF (n : Nat) (h : n ≤ 4000) : cleanF (cm n) = (cm n, 0) := by
  unfold cleanF
  rw [if_neg (by rw [cm_ln]; omega), cm_cleanS]
theorem cm_tokens_1501 (m : Nat) (hm : 1502 ≤ m) : token_Tokens m (cm 1501) = some ([], 4) := by
  obtain ⟨k, rfl⟩ : ∃ k, m = k + 1 := ⟨m - 1, by omega⟩
  obtain ⟨q, hq⟩ : ∃ q, k + 1 = (q + 1) + 1500 := ⟨k - 1500, by omega⟩
  have hr := cm_run 1501 k (q + 1) (by omega) (by omega) 1500 0 rfl
  rw [← hq] at hr
  have h1 : token_read_L1 (k + 1) (cm 1501, 0) (q + 1) (1500 : Int) (1500 : Int) (List.replicate 1500 ctok) = some (.inl (4, List.replicate 1500 ctok)) := by
    rw [token_read_L1, bTe (decide_eq_true (by rw [cm_ln]; omega)), bTe (show decide (1500 < w64 ((1500 : Int) + 1)) = true from by decide)]
  have hc := cm_comments 1501 0 k (by omega) (by omega)
  unfold token_Tokens token_read
  rw [cm_cleanF 1501 (by omega), lt_eq, bFe (show ((cm 1501, (0 : Int)).2 != 0) = false from rfl)]
  rw [show token_scanner_comments (k + 1) (cm 1501, (0 : Int)).1 0 = some 0 from hc, Option.bind_some]
  rw [show token_read_L1 (k + 1) (cm 1501, 0) (k + 1) 0 0 [] = _ from hr.trans h1]
  rfl
theorem cm_tokens_1500 (m : Nat) (hm : 1502 ≤ m) : token_Tokens m (cm 1500) = some (List.replicate 1500 ctok, 0) := by
  obtain ⟨k, rfl⟩ : ∃ k, m = k + 1 := ⟨m - 1, by omega⟩
  obtain ⟨q, hq⟩ : ∃ q, k + 1 = (q + 1) + 1500 := ⟨k - 1500, by omega⟩
  have hr := cm_run 1500 k (q + 1) (by omega) (by omega) 1500 0 rfl
  rw [← hq] at hr
  have h1 : token_read_L1 (k + 1) (cm 1500, 0) (q + 1) (1500 : Int) (1500 : Int) (List.replicate 1500 ctok) = some (.inr (1500, List.replicate 1500 ctok)) := by
    rw [token_read_L1, bFe (decide_eq_false (by rw [cm_ln]; omega))]
  have hc := cm_comments 1500 0 k (by omega) (by omega)
  unfold token_Tokens token_read
  rw [cm_cleanF 1500 (by omega), lt_eq, bFe (show ((cm 1500, (0 : Int)).2 != 0) = false from rfl)]
  rw [show token_scanner_comments (k + 1) (cm 1500, (0 : Int)).1 0 = some 0 from hc, Option.bind_some]
  rw [show token_read_L1 (k + 1) (cm 1500, 0) (k + 1) 0 0 [] = _ from hr.trans h1]
  rfl
theorem toB_rep (n : Nat) (c : Int) : toB (List.replicate n c) = List.replicate n (UInt8.ofNat c.toNat) := by simp [toB]
theorem long_ln : 4000 < ln (toB (List.replicate ((4001 : Int)).toNat (0 : Int))) := by
  rw [toB_rep]; unfold ln; rw [List.length_replicate]; decide
theorem long_spans (m : Nat) : token_Spans m (toB (List.replicate ((4001 : Int)).toNat (0 : Int))) = some ([], 28) := by
  unfold token_Spans token_read_2 cleanF
  rw [if_pos long_ln]; rfl
theorem long_value (m : Nat) : token_Value m (toB (List.replicate ((4001 : Int)).toNat (0 : Int))) = some (0, false, 28) := by
  unfold token_Value
  rw [bTe (decide_eq_true long_ln)]
theorem long_name (m : Nat) : token_Name m (toB (List.replicate ((4001 : Int)).toNat (0 : Int))) = some ([], 28) := by
  unfold token_Name
  rw [bTe (decide_eq_true long_ln)]
theorem cm_1501 : toB (List.replicate 1501 (44 : Int)) = cm 1501 := by rw [toB_rep]; rfl
theorem cm_1500 : toB (subl (List.replicate 1501 (44 : Int)) (0 : Int) (1500 : Int)) = cm 1500 := by
  unfold subl
  rw [show ((0 : Int)).toNat = 0 from rfl, show ((1500 : Int)).toNat = 1500 from rfl, List.drop_zero, List.take_replicate, toB_rep]; rfl
end Go.Proofs.YtfancfogkhclfaaGreatDoor

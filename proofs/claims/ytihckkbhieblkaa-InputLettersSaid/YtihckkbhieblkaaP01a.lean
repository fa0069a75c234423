/-
  Plain laws of the chapter on cleaning: what the models come to. No program in sight.
-/
import Derived.Test.YtihckkbhieblkaaW01
import Derived.Test.YtihckkbhieblkaaVP
set_option linter.unusedVariables false
set_option maxRecDepth 20000
set_option maxHeartbeats 4000000
namespace Go.Proofs.Ytihckkbhieblkaa
open Go.V Go.RowKit
/-! ## What is asked of a text -/
def badB (c : UInt8) : Bool := ([0, 12, 13] : Str).contains c
def hasC (s : Str) : Bool := s.any badB
theorem hasC_cons (c : UInt8) (s : Str) : hasC (c :: s) = (badB c || hasC s) := rfl
theorem hasC_app (s t : Str) : hasC (s ++ t) = (hasC s || hasC t) := by simp [hasC]
theorem index_any : ∀ s : Str, decide (0 ≤ Lib.indexAny s [0, 12, 13]) = hasC s
  | [] => rfl
  | c :: s => by
    have ih := index_any s
    rw [hasC_cons]
    unfold Lib.indexAny
    cases h : badB c with
    | true =>
      have h' : ([0, 12, 13] : List UInt8).contains c = true := h
      rw [if_pos h']; rfl
    | false =>
      have h' : ¬ ([0, 12, 13] : List UInt8).contains c = true := by rw [show ([0, 12, 13] : List UInt8).contains c = false from h]; simp
      rw [if_neg h', Bool.false_or, ← ih]
      have hg := Lib.indexAny_ge [0, 12, 13] s
      split
      · rename_i h2
        have := beq_iff_eq.1 h2
        rw [this]
      · rename_i h2
        have : Lib.indexAny s [0, 12, 13] ≠ -1 := fun e => h2 (by rw [e]; rfl)
        exact decide_eq_decide.2 ⟨fun _ => by omega, fun _ => by omega⟩
theorem contains_eq (s : Str) : Lib.containsAny s [0, 12, 13] = hasC s := index_any s
def chkV (s : Str) : Int := if 12000 < ln s then 28 else if hasC s then 8 else 0
theorem check_eq (s : Str) : input_Check s = some (chkV s) := by
  unfold input_Check chkV
  by_cases h : 12000 < ln s
  · rw [bTe (decide_eq_true h), if_pos h]
  · rw [bFe (decide_eq_false h), if_neg h]
    unfold x_strings_ContainsAny
    rw [chk_pos ⟨rfl, by unfold ln at h; omega⟩, contains_eq]
    simp only [Option.bind_some]
    cases hasC s <;> rfl
theorem bad_bat (s : Str) (i : Nat) (h : i < s.length) : (cond (cond (bat s (i : Int) == 0) true (bat s (i : Int) == 12)) true (bat s (i : Int) == 13)) = badB s[i] := by
  rw [bat_nat s i h]
  have : ∀ n : Fin 256, (cond (cond ((n.val : Int) == 0) true ((n.val : Int) == 12)) true ((n.val : Int) == 13)) = badB (UInt8.ofNat n.val) := by decide +kernel
  have := this ⟨s[i].toNat, s[i].toNat_lt⟩
  simpa using this
theorem is_L1 (m : Nat) (s : Str) (hs : s.length ≤ 1000000) : ∀ (kk i : Nat), i ≤ s.length → s.length - i < kk → r01_Is_L1 m s kk (i : Int) = some (cond (hasC (s.drop i)) (.inl false) (.inr ())) := by
  intro kk
  induction kk with
  | zero => intro i _ h; omega
  | succ kk ih =>
    intro i hi hk
    rw [r01_Is_L1]
    by_cases h : i < s.length
    · rw [bTe (lt_dec h), chk_ix h, lt_eq, bad_bat s i h, List.drop_eq_getElem_cons h, hasC_cons, w64_ix (by omega), ih (i + 1) (by omega) (by omega)]
      cases badB s[i] <;> rfl
    · rw [bFe (ge_dec (by omega)), List.drop_eq_nil_of_le (by omega)]
      rfl
theorem is_eq (m : Nat) (s : Str) (hs : s.length ≤ 1000000) (hm : s.length < m) : r01_Is m s = some (!hasC s) := by
  unfold r01_Is
  have := is_L1 m s hs m 0 (by omega) (by omega)
  rw [show ((0 : Nat) : Int) = 0 from rfl] at this
  rw [this, List.drop_zero]
  simp only [Option.bind_some]
  cases hasC s <;> rfl
theorem rcheck_eq (m : Nat) (s : Str) (hm : s.length < m ∨ 12000 < s.length) : r01_Check m s = some (chkV s) := by
  unfold r01_Check chkV
  by_cases h : 12000 < ln s
  · rw [bTe (decide_eq_true h), if_pos h]
  · rw [bFe (decide_eq_false h), if_neg h]
    have hl : s.length ≤ 12000 := by unfold ln at h; omega
    rw [is_eq m s (by omega) (by omega)]
    simp only [Option.bind_some]
    cases hasC s <;> rfl
/-! ## Lines -/
def endsN (s : Str) : Int := (s.count 10 : Nat)
theorem endsN_cons (c : UInt8) (s : Str) : endsN (c :: s) = endsN s + (if c = 10 then 1 else 0) := by
  unfold endsN
  rw [List.count_cons]
  by_cases h : c = 10
  · subst h; simp
  · have : (c == 10) = false := by simpa using h
    simp [this, h]
theorem endsN_app (s t : Str) : endsN (s ++ t) = endsN s + endsN t := by unfold endsN; rw [List.count_append]; omega
theorem endsN_le (s : Str) : 0 ≤ endsN s ∧ endsN s ≤ ln s := by
  unfold endsN ln
  have := List.count_le_length (a := (10 : UInt8)) (l := s)
  omega
theorem count_eq (m : Nat) (s : Str) : strings_Count m s [10] = some (endsN s) := rfl
theorem bat10 (s : Str) (i : Nat) (h : i < s.length) : (bat s (i : Int) == 10) = decide (s[i] = 10) := by
  rw [bat_nat s i h]
  have := d10 s[i]
  rw [← this]
  rfl
theorem bat13 (s : Str) (i : Nat) (h : i < s.length) : (bat s (i : Int) == 13) = decide (s[i] = 13) := by
  rw [bat_nat s i h]
  have := d13 s[i]
  rw [← this]
  rfl
theorem ends_L1 (m : Nat) (s : Str) (hs : s.length ≤ 1000000) : ∀ (kk i : Nat) (n : Int), 0 ≤ n → n ≤ i → i ≤ s.length → s.length - i < kk → r01_Ends_L1 m s kk n (i : Int) = some (n + endsN (s.drop i)) := by
  intro kk
  induction kk with
  | zero => intro i n _ _ _ h; omega
  | succ kk ih =>
    intro i n h0 h1 hi hk
    rw [r01_Ends_L1]
    by_cases h : i < s.length
    · rw [bTe (lt_dec h), chk_ix h, bat10 s i h, List.drop_eq_getElem_cons h, endsN_cons, w64_ix (by omega)]
      by_cases hc : s[i] = 10
      · rw [bTe (decide_eq_true hc), if_pos hc]
        simp only [Option.bind_some]
        rw [w64_id (by omega) (by omega), ih (i + 1) (n + 1) (by omega) (by omega) (by omega) (by omega)]
        congr 1 <;> omega
      · rw [bFe (decide_eq_false hc), if_neg hc]
        simp only [Option.bind_some]
        rw [ih (i + 1) n (by omega) (by omega) (by omega) (by omega)]
        congr 1 <;> omega
    · rw [bFe (ge_dec (by omega)), List.drop_eq_nil_of_le (by omega)]
      simp [endsN]
theorem ends_eq (m : Nat) (s : Str) (hs : s.length ≤ 1000000) (hm : s.length < m) : r01_Ends m s = some (endsN s) := by
  unfold r01_Ends
  have := ends_L1 m s hs m 0 0 (by omega) (by omega) (by omega) (by omega)
  rw [show ((0 : Nat) : Int) = 0 from rfl] at this
  rw [this, List.drop_zero]
  simp only [Option.bind_some, Int.zero_add]
def linesV (s : Str) : Int × Int := if chkV s ≠ 0 then (0, chkV s) else (endsN s + 1, 0)
theorem chkV_small {s : Str} (h : chkV s = 0) : s.length ≤ 12000 ∧ hasC s = false := by
  unfold chkV at h
  by_cases h1 : 12000 < ln s
  · rw [if_pos h1] at h; omega
  · rw [if_neg h1] at h
    cases hh : hasC s with
    | true => rw [hh] at h; simp at h
    | false => exact ⟨by unfold ln at h1; omega, rfl⟩
theorem lines_eq (m : Nat) (s : Str) : input_Lines m s = some (linesV s) := by
  unfold input_Lines linesV
  rw [check_eq]
  simp only [Option.bind_some]
  by_cases h : chkV s = 0
  · rw [bFe (by simp [h]), if_neg (by simpa using h), count_eq]
    simp only [Option.bind_some]
    have := chkV_small h
    have h2 := endsN_le s
    unfold ln at h2
    rw [w64_id (by omega) (by omega)]
  · rw [bTe (by simp [h]), if_pos h]
theorem rlines_eq (m : Nat) (s : Str) (hm : s.length < m ∨ 12000 < s.length) : r01_Lines m s = some (linesV s) := by
  unfold r01_Lines linesV
  rw [rcheck_eq m s hm]
  simp only [Option.bind_some]
  by_cases h : chkV s = 0
  · have := chkV_small h
    rw [bFe (by simp [h]), if_neg (by simpa using h), ends_eq m s (by omega) (by omega)]
    simp only [Option.bind_some]
    have h2 := endsN_le s
    unfold ln at h2
    rw [w64_id (by omega) (by omega)]
  · rw [bTe (by simp [h]), if_pos h]
/-! ## Places -/
/-- How many bytes stand behind the last line end. -/
def tailN (p : Str) : Nat := (p.reverse.takeWhile fun c => decide (c ≠ 10)).length
theorem tailN_snoc (p : Str) (c : UInt8) : tailN (p ++ [c]) = if c = 10 then 0 else tailN p + 1 := by
  unfold tailN
  rw [List.reverse_append]
  by_cases h : c = 10
  · simp [h]
  · simp [h]
theorem tailN_le (p : Str) : tailN p ≤ p.length := by
  unfold tailN
  have := (List.takeWhile_prefix (l := p.reverse) fun c => decide (c ≠ 10)).length_le
  simpa using this
theorem take_snoc (s : Str) (i : Nat) (h : i < s.length) : s.take (i + 1) = s.take i ++ [s[i]] := by simp
theorem last_L1 (m : Nat) (s : Str) (hs : s.length ≤ 1000000) : ∀ (kk i : Nat), i ≤ s.length → i < kk →
    bytealg_LastIndexByteString_L1 m s 10 kk ((i : Int) - 1) = some (if tailN (s.take i) = i then .inr () else .inl ((i : Int) - 1 - tailN (s.take i))) := by
  intro kk
  induction kk with
  | zero => intro i _ h; omega
  | succ kk ih =>
    intro i hi hk
    rw [bytealg_LastIndexByteString_L1]
    cases i with
    | zero =>
      rw [bFe (by decide)]
      simp [tailN]
    | succ i =>
      have h : i < s.length := by omega
      rw [show (((i + 1 : Nat) : Int) - 1) = (i : Int) from by omega, bTe (decide_eq_true (by omega)), chk_ix h, bat10 s i h, take_snoc s i h, tailN_snoc]
      by_cases hc : s[i] = 10
      · rw [bTe (decide_eq_true hc), if_pos hc, if_neg (by omega)]
        simp
      · rw [bFe (decide_eq_false hc), if_neg hc, w64_id (by omega) (by omega), ih i (by omega) (by omega)]
        by_cases e : tailN (s.take i) = i
        · rw [if_pos e, if_pos (by omega)]
        · rw [if_neg e, if_neg (by omega)]
          congr 2
          omega
theorem last_eq (m : Nat) (s : Str) (hs : s.length ≤ 1000000) (hm : s.length < m) : strings_LastIndexByte m s 10 = some (ln s - 1 - tailN s) := by
  unfold strings_LastIndexByte bytealg_LastIndexByteString
  rw [w64_id (by unfold ln; omega) (by unfold ln; omega)]
  have := last_L1 m s hs m s.length (Nat.le_refl _) hm
  rw [List.take_length] at this
  have e : ln s - 1 = (s.length : Int) - 1 := rfl
  rw [e, this]
  simp only [Option.bind_some]
  by_cases h : tailN s = s.length
  · rw [if_pos h]
    simp only [sumK, Option.bind_some]
    congr 1 <;> omega
  · rw [if_neg h]
    rfl
theorem place_L1 (m : Nat) (s : Str) (hs : s.length ≤ 1000000) : ∀ (kk i : Nat) (n : Int), 0 ≤ n → n ≤ 1000001 - i → i ≤ s.length → i < kk →
    r01_Place_L1 m s kk n ((i : Int) - 1) = some (n + tailN (s.take i)) := by
  intro kk
  induction kk with
  | zero => intro i n _ _ _ h; omega
  | succ kk ih =>
    intro i n h0 h1 hi hk
    rw [r01_Place_L1]
    cases i with
    | zero =>
      rw [chk_pos (by intro h; have := of_decide_eq_true h; omega), lt_eq, bFe (by rw [decide_eq_false (by omega)]; rfl)]
      simp [tailN]
    | succ i =>
      have h : i < s.length := by omega
      rw [show (((i + 1 : Nat) : Int) - 1) = (i : Int) from by omega, chk_pos (by intro _; exact ⟨by omega, by unfold ln; omega⟩), lt_eq, bTe (decide_eq_true (show (0 : Int) ≤ (i : Int) from by omega))]
      rw [take_snoc s i h, tailN_snoc]
      have e : (bat s (i : Int) != 10) = !decide (s[i] = 10) := by rw [← bat10 s i h]; rfl
      rw [e]
      by_cases hc : s[i] = 10
      · rw [decide_eq_true hc, if_pos hc, bFe (show (!true) = false from rfl)]
        simp
      · rw [decide_eq_false hc, if_neg hc, bTe (show (!false) = true from rfl), w64_id (by omega) (by omega), w64_id (by omega) (by omega), ih i (n + 1) (by omega) (by omega) (by omega) (by omega)]
        congr 1 <;> omega
def placeV (s : Str) (at_ : Int) : Int × Int × Int :=
  if chkV s ≠ 0 then (0, 0, chkV s) else if at_ < 0 ∨ ln s < at_ then (0, 0, 2) else (endsN (s.take at_.toNat) + 1, (tailN (s.take at_.toNat) : Int) + 1, 0)
theorem sub0 (s : Str) (i : Int) : sub s 0 i = s.take i.toNat := by simp [sub]
theorem out_dec (s : Str) (i : Int) : (cond (decide (i < 0)) true (decide (ln s < i))) = decide (i < 0 ∨ ln s < i) := by
  by_cases h : i < 0
  · simp [h]
  · simp [h]
theorem place_eq (m : Nat) (s : Str) (at_ : Int) (hm : 12000 < m) : input_Place m s at_ = some (placeV s at_) := by
  unfold input_Place placeV
  rw [check_eq]
  simp only [Option.bind_some]
  by_cases h : chkV s = 0
  · have hs := chkV_small h
    rw [bFe (by simp [h]), if_neg (by simpa using h), out_dec, lt_eq]
    by_cases ho : at_ < 0 ∨ ln s < at_
    · rw [bTe (decide_eq_true ho), if_pos ho]
    · rw [bFe (decide_eq_false ho), if_neg ho, chk_pos (by omega), sub0, count_eq]
      have hl : (s.take at_.toNat).length = at_.toNat := by rw [List.length_take]; unfold ln at ho; omega
      have h2 := endsN_le (s.take at_.toNat)
      have h3 := tailN_le (s.take at_.toNat)
      have hle : at_.toNat ≤ s.length := by unfold ln at ho; omega
      rw [last_eq m _ (by omega) (by omega)]
      unfold ln at h2
      simp only [Option.bind_some]
      rw [w64_id (by omega) (by omega), w64_id (by unfold ln; omega) (by unfold ln; omega)]
      congr 3
      unfold ln
      omega
  · rw [bTe (by simp [h]), if_pos h]
theorem rplace_eq (m : Nat) (s : Str) (at_ : Int) (hm : 12000 < m) : r01_Place m s at_ = some (placeV s at_) := by
  unfold r01_Place placeV
  rw [rcheck_eq m s (by omega)]
  simp only [Option.bind_some]
  by_cases h : chkV s = 0
  · have hs := chkV_small h
    rw [bFe (by simp [h]), if_neg (by simpa using h), out_dec, lt_eq]
    by_cases ho : at_ < 0 ∨ ln s < at_
    · rw [bTe (decide_eq_true ho), if_pos ho]
    · have hl : (s.take at_.toNat).length = at_.toNat := by rw [List.length_take]; unfold ln at ho; omega
      have h2 := endsN_le (s.take at_.toNat)
      have h3 := tailN_le (s.take at_.toNat)
      have hat : at_ = (at_.toNat : Int) := by omega
      have hle : at_.toNat ≤ s.length := by unfold ln at ho; omega
      rw [bFe (decide_eq_false ho), if_neg ho, w64_id (by unfold ln at ho; omega) (by unfold ln at ho; omega)]
      have := place_L1 m s (by omega) m at_.toNat 1 (by omega) (by omega) hle (by omega)
      rw [← hat] at this
      rw [this]
      simp only [Option.bind_some]
      rw [chk_pos (by omega), sub0, ends_eq m _ (by omega) (by omega)]
      unfold ln at h2
      simp only [Option.bind_some]
      rw [w64_id (by omega) (by omega)]
      congr 3
      omega
  · rw [bTe (by simp [h]), if_pos h]
/-! ## Cleaning -/
theorem cleanB_ok (c : UInt8) : hasC (cleanB c) = false ∧ (cleanB c).length ≤ 3 ∧ (badB c = false → cleanB c = [c]) := by
  have : ∀ n : Fin 256, hasC (cleanB (UInt8.ofNat n.val)) = false ∧ (cleanB (UInt8.ofNat n.val)).length ≤ 3 ∧ (badB (UInt8.ofNat n.val) = false → cleanB (UInt8.ofNat n.val) = [UInt8.ofNat n.val]) := by decide +kernel
  have := this ⟨c.toNat, c.toNat_lt⟩
  simpa using this
theorem hasC_clean : ∀ (p : Bool) (s : Str), hasC (cleanS p s) = false
  | _, [] => by simp [cleanS, hasC]
  | p, c :: s => by
    unfold cleanS
    split
    · exact hasC_clean false s
    · rw [hasC_app, (cleanB_ok c).1, hasC_clean _ s]; rfl
theorem len_clean : ∀ (p : Bool) (s : Str), (cleanS p s).length ≤ 3 * s.length
  | _, [] => by simp [cleanS]
  | p, c :: s => by
    unfold cleanS
    split
    · have := len_clean false s; simp only [List.length_cons]; omega
    · have := len_clean (decide (c = 13)) s
      have := (cleanB_ok c).2.1
      simp only [List.length_cons, List.length_append]; omega
theorem clean_id : ∀ s : Str, hasC s = false → cleanS false s = s
  | [], _ => rfl
  | c :: s, h => by
    rw [hasC_cons, Bool.or_eq_false_iff] at h
    have h13 : c ≠ 13 := fun e => by subst e; simp [badB] at h
    rw [cleanS_app, (cleanB_ok c).2.2 h.1, decide_eq_false h13, clean_id s h.2]
    rfl
theorem cleanF_small (s : Str) (h : s.length ≤ 4000) : cleanF s = (cleanS false s, 0) := by rw [cleanF, if_neg (by unfold ln; omega)]
/-- Is a CR ahead of a place? -/
def pcr (s : Str) (i : Nat) : Bool := decide (0 < i) && (bat s ((i : Int) - 1) == 13)
theorem pcr_succ (s : Str) (i : Nat) (h : i < s.length) : pcr s (i + 1) = decide (s[i] = 13) := by
  unfold pcr
  rw [show (((i + 1 : Nat) : Int) - 1) = (i : Int) from by omega, bat13 s i h]
  simp
theorem skip_eq (s : Str) (i : Nat) (h : i < s.length) (hs : s.length ≤ 1000000) {α : Type} (k : Bool → Option α) :
    (lt (cond ((bat s (i : Int)) == 10) (decide ((0 : Int) < (i : Int))) false) fun x16 =>
    chk (x16 = true → 0 ≤ (w64 ((i : Int) - 1)) ∧ (w64 ((i : Int) - 1)) < ln s) <|
    lt (cond x16 ((bat s (w64 ((i : Int) - 1))) == 13) false) k) = k (decide (s[i] = 10) && pcr s i) := by
  rw [lt_eq, bat10 s i h, w64_id (by omega) (by omega)]
  rw [chk_pos (by
    intro hx
    by_cases hc : s[i] = 10
    · rw [decide_eq_true hc, cond_true] at hx
      have := of_decide_eq_true hx
      exact ⟨by omega, by unfold ln; omega⟩
    · rw [decide_eq_false hc, cond_false] at hx
      cases hx), lt_eq]
  congr 1
  unfold pcr
  by_cases hc : s[i] = 10
  · rw [decide_eq_true hc]
    by_cases h0 : 0 < i
    · have : decide ((0 : Int) < (i : Int)) = true := decide_eq_true (by omega)
      rw [this, decide_eq_true h0]; rfl
    · have : decide ((0 : Int) < (i : Int)) = false := decide_eq_false (by omega)
      rw [this, decide_eq_false h0]; rfl
  · rw [decide_eq_false hc]; rfl
theorem clean_step (s : Str) (i : Nat) (h : i < s.length) : cleanS (pcr s i) (s.drop i) = if (decide (s[i] = 10) && pcr s i) = true then cleanS false (s.drop (i + 1)) else cleanB s[i] ++ cleanS (decide (s[i] = 13)) (s.drop (i + 1)) := by
  rw [List.drop_eq_getElem_cons h]
  rw [cleanS]
  by_cases hp : pcr s i = true
  · by_cases hc : s[i] = 10
    · rw [if_pos ⟨hp, hc⟩, if_pos (by simp [hp, hc])]
    · rw [if_neg (fun e => hc e.2), if_neg (by simp [hc])]
  · rw [if_neg (fun e => hp e.1), if_neg (by simp [hp])]
theorem clean_next (s : Str) (i : Nat) (h : i < s.length) : cleanS (pcr s i) (s.drop i) = (if (decide (s[i] = 10) && pcr s i) = true then [] else cleanB s[i]) ++ cleanS (pcr s (i + 1)) (s.drop (i + 1)) := by
  rw [clean_step s i h, pcr_succ s i h]
  by_cases hx : (decide (s[i] = 10) && pcr s i) = true
  · rw [if_pos hx, if_pos hx]
    have hc : s[i] = 10 := by simp at hx; exact hx.1
    rw [decide_eq_false (by rw [hc]; decide)]
    rfl
  · rw [if_neg hx, if_neg hx]
theorem out_byte (c : UInt8) : ∀ (f : Int → Option Str), (Option.bind (cond (cond (((c.toNat : Int)) == 13) true (((c.toNat : Int)) == 12)) (some (10 : Int)) (some (c.toNat : Int))) f) = f (if c = 13 ∨ c = 12 then 10 else (c.toNat : Int)) := by
  intro f
  have e1 : (((c.toNat : Int)) == 13) = decide (c = 13) := by rw [← d13 c]; rfl
  have e2 : (((c.toNat : Int)) == 12) = decide (c = 12) := by rw [← d12 c]; rfl
  rw [e1, e2]
  by_cases h1 : c = 13
  · simp [h1]
  · by_cases h2 : c = 12
    · simp [h2]
    · simp [h1, h2]
theorem cleaned_L1 (m : Nat) (s : Str) (hs : s.length ≤ 1000000) : ∀ (kk i : Nat) (o : Str), i ≤ s.length → s.length - i < kk → o.length ≤ 3 * i → r01_Cleaned_L1 m s kk o (i : Int) = some (o ++ cleanS (pcr s i) (s.drop i)) := by
  intro kk
  induction kk with
  | zero => intro i o _ h; omega
  | succ kk ih =>
    intro i o hi hk ho
    rw [r01_Cleaned_L1]
    by_cases h : i < s.length
    · rw [bTe (lt_dec h), chk_ix h, skip_eq s i h hs, w64_ix (by omega)]
      rw [clean_next s i h]
      cases hx : (decide (s[i] = 10) && pcr s i) with
      | true =>
        rw [if_pos rfl, bTe rfl]
        simp only [Option.bind_some]
        rw [ih (i + 1) o (by omega) (by omega) (by omega)]
        rfl
      | false =>
        rw [if_neg (by simp), bFe rfl, lt_eq, bat_nat s i h, out_byte]
        have hb := (cleanB_ok s[i]).2.1
        have key : ∀ z : Str, z.length ≤ 3 → chk (ln o + ln z ≤ 9223372036854775807) (some (o ++ z)) = some (o ++ z) := fun z hz => chk_pos (by unfold ln; omega)
        have fin : ∀ z : Str, z = cleanB s[i] → (Option.bind (some (o ++ z)) fun (z12 : Str) => r01_Cleaned_L1 m s kk z12 ((i + 1 : Nat) : Int)) = some (o ++ (cleanB s[i] ++ cleanS (pcr s (i + 1)) (s.drop (i + 1)))) := fun z hz => by
          simp only [Option.bind_some]
          subst hz
          rw [ih (i + 1) _ (by omega) (by omega) (by simp; omega)]
          simp
        by_cases h1 : s[i] = 13 ∨ s[i] = 12
        · rw [if_pos h1, bFe (by decide), key _ (by simp [toB])]
          exact fin _ (by rw [cleanB, if_pos h1]; rfl)
        · rw [if_neg h1]
          have e0 : (((s[i].toNat : Int)) == 0) = decide (s[i] = 0) := by rw [← d0 s[i]]; rfl
          rw [e0]
          by_cases h2 : s[i] = 0
          · rw [bTe (decide_eq_true h2), key _ (by simp [toB])]
            exact fin _ (by rw [cleanB, if_neg h1, if_pos h2]; rfl)
          · rw [bFe (decide_eq_false h2), key _ (by simp [toB])]
            exact fin _ (by rw [cleanB, if_neg h1, if_neg h2]; simp [toB])
    · rw [bFe (ge_dec (by omega)), List.drop_eq_nil_of_le (by omega)]
      simp [cleanS]
theorem cleaned_eq (m : Nat) (s : Str) (hs : s.length ≤ 1000000) (hm : s.length < m) : r01_Cleaned m s = some (cleanS false s) := by
  unfold r01_Cleaned
  have := cleaned_L1 m s hs m 0 [] (by omega) (by omega) (by simp)
  rw [show ((0 : Nat) : Int) = 0 from rfl] at this
  rw [this, List.drop_zero]
  rfl
theorem rclean_eq (m : Nat) (s : Str) (hm : 4000 < m) : r01_Clean m s = some (cleanF s) := by
  unfold r01_Clean cleanF
  by_cases h : 4000 < ln s
  · rw [bTe (decide_eq_true h), if_pos h]
  · rw [bFe (decide_eq_false h), if_neg h, cleaned_eq m s (by unfold ln at h; omega) (by unfold ln at h; omega)]
    rfl
/-! ## Small letters -/
def lowC (c : Int) : Int := cond (cond (decide (65 ≤ c)) (decide (c ≤ 90)) false) (ibit .or .u8 c 32) c
theorem lower_L1 (m : Nat) (s : Str) (hs : s.length < 4611686018427387904) : ∀ (kk i : Nat) (q : List Int), q.length = s.length → i ≤ s.length → s.length - i < kk →
    input_Lower_L1 m s kk (i : Int) q = some (q.take i ++ (q.drop i).map lowC) := by
  intro kk
  induction kk with
  | zero => intro i q _ _ h; omega
  | succ kk ih =>
    intro i q hq hi hm
    rw [input_Lower_L1]
    have e : ln (ofB s) = (s.length : Int) := by rw [ln_ofB]; rfl
    by_cases hlt : i < s.length
    · rw [e, bTe (show decide ((i : Int) < (s.length : Int)) = true from by simpa using hlt), w64_ix (by omega)]
      have hg : gi q (i : Int) = q[i] := gi_nat q i (by omega)
      have hrest : ∀ v, input_Lower_L1 m s kk ((i + 1 : Nat) : Int) (q.set i v) = some (q.take i ++ v :: (q.drop (i + 1)).map lowC) := fun v => by
        rw [ih (i + 1) (q.set i v) (by simpa using hq) (by omega) (by omega), take_set_drop q i v lowC (by omega)]
      have hd : q.drop i = q[i] :: q.drop (i + 1) := List.drop_eq_getElem_cons (by omega)
      have hset : q.set i q[i] = q := by simp
      rw [chk_pos ⟨by omega, by omega⟩, lt_eq]
      simp only [hg, seti_nat]
      rw [hd, List.map_cons]
      cases hb : (bif decide (65 ≤ q[i]) then decide (q[i] ≤ 90) else false) with
      | true =>
        simp only [cond_true, lt_eq, Option.bind_some]
        rw [hrest]
        simp only [lowC, hb, cond_true]
      | false =>
        simp only [cond_false, Option.bind_some]
        have := hrest q[i]
        rw [hset] at this
        rw [this]
        simp only [lowC, hb, cond_false]
    · have : i = s.length := by omega
      subst this
      rw [e, bFe (show decide (((s.length : Nat) : Int) < ((s.length : Nat) : Int)) = false from by simp)]
      simp [← hq]
def lowB (c : UInt8) : UInt8 := UInt8.ofNat (lowC (c.toNat : Int)).toNat
def lowS (s : Str) : Str := s.map lowB
theorem lower_eq (m : Nat) (s : Str) (hs : s.length < 1000000) (hm : s.length < m) : input_Lower m s = some (lowS s) := by
  unfold input_Lower
  have := lower_L1 m s (by omega) m 0 (ofB s) (by simp [ofB]) (by omega) (by omega)
  rw [show ((0 : Nat) : Int) = 0 from rfl] at this
  rw [this]
  simp only [Option.bind_some, List.take_zero, List.drop_zero, List.nil_append]
  simp [toB, ofB, lowS, List.map_map]
  intro c _
  rfl
theorem alike_eq (m : Nat) (s t : Str) (hs : s.length < 1000000) (ht : t.length < 1000000) (hm : s.length < m) (hm2 : t.length < m) : input_Alike m s t = some (lowS s == lowS t) := by
  unfold input_Alike
  rw [lower_eq m s hs hm, lower_eq m t ht hm2]
  rfl
end Go.Proofs.Ytihckkbhieblkaa

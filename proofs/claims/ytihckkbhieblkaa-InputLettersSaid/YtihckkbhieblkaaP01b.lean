/-
  The plain laws of the chapter on cleaning: each comes to 'true' for every input. No program in sight.
-/
import Derived.Test.YtihckkbhieblkaaP01a
set_option linter.unusedVariables false
set_option maxRecDepth 20000
set_option maxHeartbeats 4000000
namespace Go.Proofs.Ytihckkbhieblkaa
open Go.V Go.RowKit
theorem alive_true : law01_alive 13000 = some true := by kernel_rfl
theorem names_true : law01_InputNames 13000 = some true := by kernel_rfl
theorem and_t {a b : Bool} (h : cond a b false = true) : a = true ∧ b = true := by cases a <;> simp_all
theorem cleans_true (s : Str) (at_ : Int) : law01_InputCleans 13000 s at_ = some true := by
  unfold law01_InputCleans
  cases hg : r01_Great s with
  | true => rfl
  | false =>
    have hl : s.length < 13000 := by
      unfold r01_Great at hg
      rw [lt_eq] at hg
      by_cases h1 : 12100 < ln s
      · rw [decide_eq_true h1] at hg
        cases hh : (cond (decide (500 < ln s)) (decide (ln s ≤ 4000)) false) <;> rw [hh] at hg <;> cases hg
      · unfold ln at h1; omega
    rw [bFe rfl, lt_eq, rclean_eq 13000 s (by omega), lines_eq, rlines_eq 13000 s (by omega), place_eq 13000 s at_ (by omega), rplace_eq 13000 s at_ (by omega)]
    simp only [Option.bind_some, beq_self_eq_true, cond_true, lt_eq, check_eq, rcheck_eq 13000 s (by omega)]
theorem once_true (s : Str) : law01_InputOnce 13000 s = some true := by
  unfold law01_InputOnce
  by_cases h : 500 < ln s
  · rw [bTe (decide_eq_true h), alive_true]; rfl
  · have hl : s.length ≤ 500 := by unfold ln at h; omega
    have h2 := len_clean false s
    rw [bFe (decide_eq_false h), cleanF_small s (by omega), lt_eq, cleanF_small _ (show (cleanS false s).length ≤ 4000 from by omega), lt_eq]
    have hc := hasC_clean false s
    have hv : chkV (cleanS false s) = 0 := by unfold chkV; rw [if_neg (by unfold ln; omega), hc]; rfl
    have hv2 : chkV s = if hasC s then 8 else 0 := by unfold chkV; rw [if_neg (by unfold ln; omega)]
    simp only [check_eq, Option.bind_some, beq_self_eq_true, cond_true, hv, lt_eq, clean_id _ hc, alive_true]
    have key : ((cleanS false s == s) == (chkV s == 0)) = true := by
      rw [hv2]
      cases hh : hasC s with
      | true =>
        have : (cleanS false s == s) = false := by
          rw [beq_eq_false_iff_ne]
          intro e
          rw [e, hh] at hc
          cases hc
        rw [this]; rfl
      | false => rw [clean_id s hh]; simp
    rw [key]; rfl
/-- Does the text end in a CR? -/
def endCR : Bool → Str → Bool
  | p, [] => p
  | _, c :: r => endCR (decide (c = 13)) r
theorem clean_app : ∀ (p : Bool) (s t : Str), cleanS p (s ++ t) = cleanS p s ++ cleanS (endCR p s) t
  | _, [], _ => by simp [cleanS, endCR]
  | p, c :: s, t => by
    have e1 : cleanS p (c :: (s ++ t)) = if p = true ∧ c = 10 then cleanS false (s ++ t) else cleanB c ++ cleanS (decide (c = 13)) (s ++ t) := by rw [cleanS]
    have e2 : cleanS p (c :: s) = if p = true ∧ c = 10 then cleanS false s else cleanB c ++ cleanS (decide (c = 13)) s := by rw [cleanS]
    rw [List.cons_append, e1, e2, endCR]
    split
    · rename_i h
      rw [clean_app false s t, decide_eq_false (by rw [h.2]; decide)]
    · rw [clean_app _ s t, List.append_assoc]
theorem endCR_snoc : ∀ (p : Bool) (s : Str) (h : 0 < s.length), endCR p s = decide (s[s.length - 1] = 13)
  | p, [c], _ => rfl
  | p, c :: d :: r, _ => by
    rw [endCR, endCR_snoc _ (d :: r) (by simp)]
    simp
theorem endCR_eq (s : Str) : endCR false s = cond (decide (0 < ln s)) (bat s (ln s - 1) == 13) false := by
  by_cases h : 0 < s.length
  · rw [endCR_snoc false s h, show decide (0 < ln s) = true from decide_eq_true (by unfold ln; omega), cond_true]
    have e : ln s - 1 = ((s.length - 1 : Nat) : Int) := by unfold ln; omega
    rw [e, bat13 s _ (by omega)]
  · have : s = [] := List.eq_nil_of_length_eq_zero (by omega)
    subst this
    rfl
theorem parts_true (s t : Str) : law01_InputParts 13000 s t = some true := by
  unfold law01_InputParts
  rw [lt_eq]
  cases h : (cond (decide (500 < ln s)) true (decide (500 < ln t))) with
  | true => rw [bTe rfl, alive_true]; rfl
  | false =>
    have h2 : ln s ≤ 500 ∧ ln t ≤ 500 := by
      by_cases h3 : 500 < ln s
      · rw [decide_eq_true h3] at h; cases h
      · rw [decide_eq_false h3, cond_false] at h
        have := of_decide_eq_false h
        omega
    have ls : s.length ≤ 500 := by unfold ln at h2; omega
    have lt' : t.length ≤ 500 := by unfold ln at h2; omega
    have l1 := len_clean false s
    have l2 := len_clean false t
    rw [bFe rfl, cleanF_small s (by omega), lt_eq, cleanF_small t (by omega), lt_eq, chk_pos (by omega), cleanF_small (s ++ t) (by simp; omega), lt_eq, lt_eq]
    rw [show (cond (cond ((0 : Int) != 0) true ((0 : Int) != 0)) true ((0 : Int) != 0)) = false from rfl, bFe rfl, lt_eq]
    have hw : w64 (ln s - 1) = ln s - 1 := w64_id (by unfold ln; omega) (by unfold ln; omega)
    rw [hw, chk_pos (by
      intro hx
      by_cases h3 : 0 < ln s
      · omega
      · rw [decide_eq_false h3] at hx; cases hx), lt_eq]
    have hx26 : (cond (cond (decide (0 < ln s)) (decide (0 < ln t)) false) (bat s (ln s - 1) == 13) false) = (endCR false s && decide (0 < ln t)) := by
      rw [endCR_eq]
      by_cases h3 : 0 < ln s
      · rw [decide_eq_true h3]
        by_cases h4 : 0 < ln t
        · rw [decide_eq_true h4]; simp
        · rw [decide_eq_false h4]; simp
      · rw [decide_eq_false h3]; rfl
    rw [hx26, chk_pos (by intro hx; simp only [Bool.and_eq_true, decide_eq_true_eq] at hx; omega)]
    dsimp only
    cases t with
    | nil =>
      rw [show (endCR false s && decide (0 < ln ([] : Str))) = false from by simp [ln]]
      rw [bFe (by rfl), chk_pos (by unfold ln; simp only [cleanS, List.length_nil]; omega)]
      have e : (cleanS false (s ++ []) == cleanS false s ++ cleanS false []) = true := by simp [cleanS]
      rw [e, bTe rfl, alive_true]
      rfl
    | cons d t =>
      have hp : decide (0 < ln (d :: t)) = true := decide_eq_true (by unfold ln; simp only [List.length_cons]; omega)
      rw [hp, Bool.and_true]
      have hb0 : (bat (d :: t) 0 == 10) = decide (d = 10) := bat10 (d :: t) 0 (by simp)
      rw [hb0, clean_app]
      cases he : endCR false s with
      | true =>
        by_cases hd : d = 10
        · subst hd
          rw [bTe (by simp)]
          have c1 : cleanS true (10 :: t) = cleanS false t := by simp [cleanS]
          have c2 : cleanS false (10 :: t) = 10 :: cleanS false t := by simp [cleanS, cleanB]
          rw [c1, c2]
          have hif : (if ln ((10 : UInt8) :: cleanS false t) < 1 then ln ((10 : UInt8) :: cleanS false t) else 1) = 1 := if_neg (by simp [ln]; omega)
          rw [hif, chk_pos ⟨by omega, by simp [ln]; omega⟩, lt_eq, sub1, chk_pos (by have := len_clean false t; simp only [List.length_cons] at lt'; unfold ln; omega)]
          rw [show (cleanS false s ++ cleanS false t == cleanS false s ++ cleanS false t) = true from by simp, bTe rfl, alive_true]
          rfl
        · rw [bFe (by simp [hd])]
          have c1 : cleanS true (d :: t) = cleanS false (d :: t) := cleanS_tf (fun r2 e => hd (by injection e))
          rw [c1, chk_pos (by unfold ln; omega), show (cleanS false s ++ cleanS false (d :: t) == cleanS false s ++ cleanS false (d :: t)) = true from by simp, bTe rfl, alive_true]
          rfl
      | false =>
        rw [bFe (by rfl), chk_pos (by unfold ln; omega), show (cleanS false s ++ cleanS false (d :: t) == cleanS false s ++ cleanS false (d :: t)) = true from by simp, bTe rfl, alive_true]
        rfl
theorem cleanB_ends (c : UInt8) : endsN (cleanB c) = (cond (cond (cond ((c.toNat : Int) == 10) true ((c.toNat : Int) == 13)) true ((c.toNat : Int) == 12)) 1 0) ∧ ln (cleanB c) = cond ((c.toNat : Int) == 0) 3 1 := by
  have : ∀ n : Fin 256, endsN (cleanB (UInt8.ofNat n.val)) = (cond (cond (cond ((n.val : Int) == 10) true ((n.val : Int) == 13)) true ((n.val : Int) == 12)) 1 0) ∧ ln (cleanB (UInt8.ofNat n.val)) = cond ((n.val : Int) == 0) 3 1 := by decide +kernel
  have := this ⟨c.toNat, c.toNat_lt⟩
  simpa using this
theorem bytes_L1 (m : Nat) (s : Str) (hs : s.length ≤ 500) : ∀ (kk i : Nat) (z e : Int), 0 ≤ z → z ≤ 3 * i → 0 ≤ e → e ≤ 1 + i → i ≤ s.length → s.length - i < kk →
    law01_InputBytes_L1 m s kk z e (i : Int) = some (z + ln (cleanS (pcr s i) (s.drop i)), e + endsN (cleanS (pcr s i) (s.drop i))) := by
  intro kk
  induction kk with
  | zero => intro i z e _ _ _ _ _ h; omega
  | succ kk ih =>
    intro i z e hz0 hz he0 he hi hk
    rw [law01_InputBytes_L1]
    by_cases h : i < s.length
    · rw [bTe (lt_dec h), chk_ix h, skip_eq s i h (by omega), w64_ix (by omega), clean_next s i h]
      cases hx : (decide (s[i] = 10) && pcr s i) with
      | true =>
        rw [if_pos rfl, bTe rfl]
        simp only [Option.bind_some]
        rw [ih (i + 1) z e (by omega) (by omega) (by omega) (by omega) (by omega) (by omega)]
        rfl
      | false =>
        rw [if_neg (by simp), bFe rfl, bat_nat s i h]
        obtain ⟨h1, h2⟩ := cleanB_ends s[i]
        have hln : ln (cleanB s[i] ++ cleanS (pcr s (i + 1)) (s.drop (i + 1))) = ln (cleanB s[i]) + ln (cleanS (pcr s (i + 1)) (s.drop (i + 1))) := by unfold ln; rw [List.length_append]; omega
        rw [hln, endsN_app, h1, h2]
        cases c0 : ((s[i].toNat : Int) == 0) with
        | true =>
          rw [bTe rfl]
          simp only [Option.bind_some, lt_eq]
          rw [w64_id (x := z + 1) (by omega) (by omega), w64_id (by omega) (by omega)]
          cases c1 : (cond (cond ((s[i].toNat : Int) == 10) true ((s[i].toNat : Int) == 13)) true ((s[i].toNat : Int) == 12)) with
          | true =>
            rw [bTe rfl]
            simp only [Option.bind_some]
            rw [w64_id (by omega) (by omega), ih (i + 1) _ _ (by omega) (by omega) (by omega) (by omega) (by omega) (by omega)]
            simp only [cond_true]
            congr 2 <;> omega
          | false =>
            rw [bFe rfl]
            simp only [Option.bind_some]
            rw [ih (i + 1) _ _ (by omega) (by omega) (by omega) (by omega) (by omega) (by omega)]
            simp only [cond_true, cond_false]
            congr 2 <;> omega
        | false =>
          rw [bFe rfl]
          simp only [Option.bind_some, lt_eq]
          rw [w64_id (x := z + 1) (by omega) (by omega)]
          cases c1 : (cond (cond ((s[i].toNat : Int) == 10) true ((s[i].toNat : Int) == 13)) true ((s[i].toNat : Int) == 12)) with
          | true =>
            rw [bTe rfl]
            simp only [Option.bind_some]
            rw [w64_id (by omega) (by omega), ih (i + 1) _ _ (by omega) (by omega) (by omega) (by omega) (by omega) (by omega)]
            simp only [cond_true, cond_false]
            congr 2 <;> omega
          | false =>
            rw [bFe rfl]
            simp only [Option.bind_some]
            rw [ih (i + 1) _ _ (by omega) (by omega) (by omega) (by omega) (by omega) (by omega)]
            simp only [cond_false]
            congr 2 <;> omega
    · rw [bFe (ge_dec (by omega)), List.drop_eq_nil_of_le (by omega)]
      simp [cleanS, ln, endsN]
theorem bytes_true (s : Str) : law01_InputBytes 13000 s = some true := by
  unfold law01_InputBytes
  by_cases h : 500 < ln s
  · rw [bTe (decide_eq_true h), alive_true]; rfl
  · have hl : s.length ≤ 500 := by unfold ln at h; omega
    have h2 := len_clean false s
    have hc := hasC_clean false s
    have hv : chkV (cleanS false s) = 0 := by unfold chkV; rw [if_neg (by unfold ln; omega), hc]; rfl
    have hL := bytes_L1 13000 s hl 13000 0 0 1 (by omega) (by omega) (by omega) (by omega) (by omega) (by omega)
    rw [show ((0 : Nat) : Int) = 0 from rfl, show pcr s 0 = false from rfl, List.drop_zero] at hL
    rw [bFe (decide_eq_false h), hL]
    simp only [Option.bind_some]
    rw [cleanF_small s (by omega), lt_eq, lines_eq]
    simp only [Option.bind_some, lt_eq, linesV, hv]
    simp only [ne_eq, not_true_eq_false, if_false, beq_self_eq_true, cond_true, Int.zero_add]
    rw [show (endsN (cleanS false s) + 1 == 1 + endsN (cleanS false s)) = true from by rw [Int.add_comm]; simp, bTe rfl, alive_true]
    rfl
theorem places_true (s : Str) (at_ : Int) : law01_InputPlaces 13000 s at_ = some true := by
  unfold law01_InputPlaces
  by_cases h : 500 < ln s
  · rw [decide_eq_true h]
    simp only [cond_true, Option.bind_some, lt_eq, alive_true]
  · have hl : s.length ≤ 500 := by unfold ln at h; omega
    rw [decide_eq_false h, bFe rfl, rcheck_eq 13000 s (by omega)]
    simp only [Option.bind_some, cond_false, lt_eq]
    by_cases hv : chkV s = 0
    · rw [bFe (by simp [hv]), place_eq 13000 s 0 (by omega), place_eq 13000 s (ln s) (by omega), lines_eq]
      have p0 : placeV s 0 = (1, 1, 0) := by
        unfold placeV
        rw [if_neg (by simpa using hv), if_neg (by unfold ln; omega)]
        simp [endsN, tailN]
      have p1 : placeV s (ln s) = (endsN s + 1, (tailN s : Int) + 1, 0) := by
        unfold placeV
        rw [if_neg (by simpa using hv), if_neg (by unfold ln; omega), show s.take (ln s).toNat = s from by unfold ln; simp]
      have pl : linesV s = (endsN s + 1, 0) := by unfold linesV; rw [if_neg (by simpa using hv)]
      rw [p0, p1, pl]
      simp only [Option.bind_some]
      rw [show (cond (cond ((0 : Int) != 0) true ((0 : Int) != 0)) true ((0 : Int) != 0)) = false from rfl]
      simp only [cond_false, show ((1 : Int) != 1) = false from rfl]
      rw [show (endsN s + 1 != endsN s + 1) = false from by simp, bFe rfl]
      by_cases ho : at_ < 0 ∨ ln s ≤ at_
      · have e : (cond (decide (at_ < 0)) true (decide (ln s ≤ at_))) = true := by
          rcases ho with h1 | h1
          · rw [decide_eq_true h1]; rfl
          · rw [decide_eq_true h1]; cases decide (at_ < 0) <;> rfl
        rw [e, bTe rfl, alive_true]
        rfl
      · have e : (cond (decide (at_ < 0)) true (decide (ln s ≤ at_))) = false := by
          rw [decide_eq_false (fun h1 => ho (.inl h1)), decide_eq_false (fun h1 => ho (.inr h1))]; rfl
        have hat : ∃ i : Nat, at_ = (i : Int) ∧ i < s.length := ⟨at_.toNat, by omega, by unfold ln at ho; omega⟩
        obtain ⟨i, rfl, hi⟩ := hat
        rw [e, bFe rfl, place_eq 13000 s (i : Int) (by omega), w64_ix (by omega), place_eq 13000 s ((i + 1 : Nat) : Int) (by omega)]
        have q0 : placeV s (i : Int) = (endsN (s.take i) + 1, (tailN (s.take i) : Int) + 1, 0) := by
          unfold placeV
          rw [if_neg (by simpa using hv), if_neg (by unfold ln; omega)]
          rfl
        have q1 : placeV s ((i + 1 : Nat) : Int) = (endsN (s.take i) + (if s[i] = 10 then 1 else 0) + 1, ((if s[i] = 10 then 0 else tailN (s.take i) + 1 : Nat) : Int) + 1, 0) := by
          unfold placeV
          rw [if_neg (by simpa using hv), if_neg (by unfold ln; omega), show (((i + 1 : Nat) : Int)).toNat = i + 1 from by omega, take_snoc s i hi, tailN_snoc, endsN_app, endsN_cons]
          simp [endsN]
        rw [q0, q1]
        simp only [Option.bind_some]
        rw [bFe (by rfl), chk_ix hi, bat10 s i hi]
        have b1 := endsN_le (s.take i)
        have b2 := tailN_le (s.take i)
        have b3 : (s.take i).length ≤ 500 := by rw [List.length_take]; omega
        unfold ln at b1
        by_cases hc : s[i] = 10
        · rw [bTe (decide_eq_true hc), if_pos hc, if_pos hc, w64_id (by omega) (by omega), show (endsN (s.take i) + 1 + 1 == endsN (s.take i) + 1 + 1) = true from by simp]
          simp only [cond_true, show ((((0 : Nat) : Int)) + 1 == 1) = true from rfl, alive_true, Option.bind_some]
        · rw [bFe (decide_eq_false hc), if_neg hc, if_neg hc, w64_id (by omega) (by omega), show (endsN (s.take i) + 0 + 1 == endsN (s.take i) + 1) = true from by simp]
          simp only [cond_true, show (((tailN (s.take i) + 1 : Nat) : Int) + 1 == (tailN (s.take i) : Int) + 1 + 1) = true from by simp, alive_true, Option.bind_some]
    · rw [bTe (by simp [hv]), alive_true]
      rfl
theorem lowB_facts (c : UInt8) : lowB (lowB c) = lowB c ∧ (cond (cond (((lowB c).toNat : Int) != (c.toNat : Int)) (cond (cond (decide ((c.toNat : Int) < 65)) true (decide (90 < (c.toNat : Int)))) true (((lowB c).toNat : Int) != (wu8 ((c.toNat : Int) + 32)))) false) true (cond (cond (decide (65 ≤ (c.toNat : Int))) (decide ((c.toNat : Int) ≤ 90)) false) (((lowB c).toNat : Int) == (c.toNat : Int)) false)) = false := by
  have : ∀ n : Fin 256, lowB (lowB (UInt8.ofNat n.val)) = lowB (UInt8.ofNat n.val) ∧ (cond (cond (((lowB (UInt8.ofNat n.val)).toNat : Int) != (n.val : Int)) (cond (cond (decide ((n.val : Int) < 65)) true (decide (90 < (n.val : Int)))) true (((lowB (UInt8.ofNat n.val)).toNat : Int) != (wu8 ((n.val : Int) + 32)))) false) true (cond (cond (decide (65 ≤ (n.val : Int))) (decide ((n.val : Int) ≤ 90)) false) (((lowB (UInt8.ofNat n.val)).toNat : Int) == (n.val : Int)) false)) = false := by decide +kernel
  have := this ⟨c.toNat, c.toNat_lt⟩
  simpa using this
theorem lowS_idem (s : Str) : lowS (lowS s) = lowS s := by
  simp only [lowS, List.map_map]
  apply List.map_congr_left
  intro c _
  exact (lowB_facts c).1
theorem lowS_app (s t : Str) : lowS (s ++ t) = lowS s ++ lowS t := by simp [lowS]
theorem lowS_len (s : Str) : (lowS s).length = s.length := by simp [lowS]
theorem letters_L1 (m : Nat) (a : Str) (ha : a.length ≤ 500) : ∀ (kk i : Nat), i ≤ a.length → a.length - i < kk → law01_InputLetters_L1 m a (lowS a) kk (i : Int) = some (.inr ()) := by
  intro kk
  induction kk with
  | zero => intro i _ h; omega
  | succ kk ih =>
    intro i hi hk
    rw [law01_InputLetters_L1]
    by_cases h : i < a.length
    · have h' : i < (lowS a).length := by rw [lowS_len]; exact h
      rw [bTe (lt_dec h), chk_ix h', chk_ix h, lt_eq, lt_eq, bat_nat a i h, bat_nat (lowS a) i h', show (lowS a)[i] = lowB a[i] from by simp [lowS], (lowB_facts a[i]).2, bFe rfl, w64_ix (by omega)]
      exact ih (i + 1) (by omega) (by omega)
    · rw [bFe (ge_dec (by omega))]
theorem letters_true (a b c : Str) : law01_InputLetters 13000 a b c = some true := by
  unfold law01_InputLetters
  rw [lt_eq]
  cases h : (cond (cond (decide (500 < ln a)) true (decide (500 < ln b))) true (decide (500 < ln c))) with
  | true => rw [bTe rfl, alive_true]; rfl
  | false =>
    have h2 : ln a ≤ 500 ∧ ln b ≤ 500 ∧ ln c ≤ 500 := by
      by_cases h3 : 500 < ln a
      · rw [decide_eq_true h3] at h; cases h
      · rw [decide_eq_false h3, cond_false] at h
        by_cases h4 : 500 < ln b
        · rw [decide_eq_true h4] at h; cases h
        · rw [decide_eq_false h4, cond_false] at h
          have := of_decide_eq_false h
          omega
    have la : a.length ≤ 500 := by unfold ln at h2; omega
    have lb : b.length ≤ 500 := by unfold ln at h2; omega
    have lc : c.length ≤ 500 := by unfold ln at h2; omega
    have ll := lowS_len a
    have ll2 := lowS_len b
    rw [bFe rfl, lower_eq 13000 a (by omega) (by omega)]
    simp only [Option.bind_some]
    rw [lower_eq 13000 (lowS a) (by omega) (by omega), lowS_idem]
    simp only [Option.bind_some]
    rw [show (cond (!(lowS a == lowS a)) true (ln (lowS a) != ln a)) = false from by simp [ln, ll], lt_eq, chk_pos (by intro _; unfold ln; omega), bFe rfl, bFe rfl, lower_eq 13000 (a ++ b) (by simp; omega) (by simp; omega), lower_eq 13000 b (by omega) (by omega)]
    simp only [Option.bind_some]
    rw [chk_pos (by intro _; unfold ln; omega), lowS_app, show (cond false true (!(lowS a ++ lowS b == lowS a ++ lowS b))) = false from by simp, bFe rfl, alike_eq 13000 a (lowS a) (by omega) (by omega) (by omega) (by omega), lowS_idem]
    simp only [Option.bind_some]
    rw [show (cond false true (!(lowS a == lowS a))) = false from by simp, lt_eq, bFe rfl]
    have hL := letters_L1 13000 a la 13000 0 (by omega) (by omega)
    rw [show ((0 : Nat) : Int) = 0 from rfl] at hL
    rw [hL]
    simp only [Option.bind_some, sumK]
    rw [alike_eq 13000 a b (by omega) (by omega) (by omega) (by omega), alike_eq 13000 b c (by omega) (by omega) (by omega) (by omega), alike_eq 13000 a c (by omega) (by omega) (by omega) (by omega), alike_eq 13000 b a (by omega) (by omega) (by omega) (by omega)]
    simp only [Option.bind_some]
    have e1 : (lowS a == lowS b) = (lowS b == lowS a) := by
      by_cases e : lowS a = lowS b
      · rw [e]
      · rw [beq_eq_false_iff_ne.2 e, beq_eq_false_iff_ne.2 (fun h => e h.symm)]
    rw [show ((lowS a == lowS b) == (lowS b == lowS a)) = true from by rw [e1]; simp, bTe rfl]
    simp only [Option.bind_some, cond_true, lt_eq]
    rw [show ((lowS a == lowS b) == (lowS a == lowS b)) = true from by simp, bTe rfl]
    have e2 : (cond (!(lowS a == lowS b)) true ((lowS b == lowS c) == (lowS a == lowS c))) = true := by
      by_cases e : lowS a = lowS b
      · rw [e]; simp
      · rw [beq_eq_false_iff_ne.2 e]; rfl
    rw [e2, bTe rfl, alive_true]
    rfl
theorem cleans_walk (s : Str) (at_ : Int) (w : World) : Calls Try.prog 4 ⟨[.string ⟨⟨s⟩⟩, .int .i64 at_]⟩ w fun e w' => e = .returned (.bool true) ∧ Below w.heap.size w w' := (law01_InputCleans_ok 13000 s at_ true (cleans_true s at_)).run w
theorem names_walk (w : World) : Calls Try.prog 5 ⟨[]⟩ w fun e w' => e = .returned (.bool true) ∧ Below w.heap.size w w' := (law01_InputNames_ok 13000  true names_true).run w
theorem once_walk (s : Str) (w : World) : Calls Try.prog 6 ⟨[.string ⟨⟨s⟩⟩]⟩ w fun e w' => e = .returned (.bool true) ∧ Below w.heap.size w w' := (law01_InputOnce_ok 13000 s true (once_true s)).run w
theorem parts_walk (s : Str) (t : Str) (w : World) : Calls Try.prog 7 ⟨[.string ⟨⟨s⟩⟩, .string ⟨⟨t⟩⟩]⟩ w fun e w' => e = .returned (.bool true) ∧ Below w.heap.size w w' := (law01_InputParts_ok 13000 s t true (parts_true s t)).run w
theorem bytes_walk (s : Str) (w : World) : Calls Try.prog 8 ⟨[.string ⟨⟨s⟩⟩]⟩ w fun e w' => e = .returned (.bool true) ∧ Below w.heap.size w w' := (law01_InputBytes_ok 13000 s true (bytes_true s)).run w
theorem places_walk (s : Str) (at_ : Int) (w : World) : Calls Try.prog 9 ⟨[.string ⟨⟨s⟩⟩, .int .i64 at_]⟩ w fun e w' => e = .returned (.bool true) ∧ Below w.heap.size w w' := (law01_InputPlaces_ok 13000 s at_ true (places_true s at_)).run w
theorem letters_walk (a : Str) (b : Str) (c : Str) (w : World) : Calls Try.prog 10 ⟨[.string ⟨⟨a⟩⟩, .string ⟨⟨b⟩⟩, .string ⟨⟨c⟩⟩]⟩ w fun e w' => e = .returned (.bool true) ∧ Below w.heap.size w w' := (law01_InputLetters_ok 13000 a b c true (letters_true a b c)).run w
end Go.Proofs.Ytihckkbhieblkaa

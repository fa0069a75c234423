/-
  Answers as text: numbers, and whole lines, by both writers. No program in sight.
-/
import Derived.Test.YtipafpkdkhnjmaaGreatDoorQ1
set_option linter.unusedVariables false
set_option maxRecDepth 100000
namespace Go.Proofs.YtipafpkdkhnjmaaGreatDoor
open Go Go.V Go.RowKit
/-! ## Numbers -/
theorem dd_small {u : Nat} (h : u < 10) : Lib.decDigits u = [UInt8.ofNat (48 + u)] := by rw [Lib.decDigits, dif_pos h]
theorem dd_big {u : Nat} (h : ¬ u < 10) : Lib.decDigits u = Lib.decDigits (u / 10) ++ [UInt8.ofNat (48 + u % 10)] := by rw [Lib.decDigits, dif_neg h]
theorem dd_len : ∀ (k u : Nat), u < 10 ^ (k + 1) → (Lib.decDigits u).length ≤ k + 1
  | 0, u, h => by rw [dd_small (by simpa using h)]; simp
  | k + 1, u, h => by
    by_cases hu : u < 10
    · rw [dd_small hu]; simp
    · rw [dd_big hu, List.length_append]
      have := dd_len k (u / 10) (by rw [Nat.pow_succ] at h; omega)
      simp only [List.length_cons, List.length_nil]; omega
theorem dig_all : ((List.range 10).all fun d => sub DIG (d : Int) (w64 ((d : Int) + 1)) == [UInt8.ofNat (48 + d)]) = true := by kernel_rfl
theorem dig_at {d : Nat} (h : d < 10) : sub [48, 49, 50, 51, 52, 53, 54, 55, 56, 57, 97, 98, 99, 100, 101, 102] (d : Int) (w64 ((d : Int) + 1)) = [UInt8.ofNat (48 + d)] := eq_of_beq (nat_all dig_all h)
theorem dig_ck {d : Nat} (h : d < 10) : 0 ≤ (d : Int) ∧ (d : Int) ≤ w64 ((d : Int) + 1) ∧ w64 ((d : Int) + 1) ≤ ln [48, 49, 50, 51, 52, 53, 54, 55, 56, 57, 97, 98, 99, 100, 101, 102] := by
  rw [w64_ix (by omega)]
  exact ⟨by omega, by omega, by show _ ≤ (16 : Int); omega⟩
theorem num_nat (m : Nat) : ∀ (k K u : Nat), u < 10 ^ (k + 1) → k < 19 → k + 1 ≤ K → r40_Number_r m K (u : Int) = some (Lib.decDigits u) := by
  intro k
  induction k with
  | zero =>
    intro K u hu _ hK
    obtain ⟨K, rfl⟩ : ∃ q, K = q + 1 := ⟨K - 1, by omega⟩
    have hu : u < 10 := by simpa using hu
    rw [r40_Number_r, show decide ((u : Int) < 0) = false from decide_eq_false (by omega), cond_false, show decide ((u : Int) < 10) = true from decide_eq_true (by omega), cond_true, chk_pos (dig_ck hu), lt_eq, dig_at hu, dd_small hu]
  | succ k ih =>
    intro K u hu hk hK
    obtain ⟨K, rfl⟩ : ∃ q, K = q + 1 := ⟨K - 1, by omega⟩
    have hp : 10 ^ (k + 1) ≤ 10 ^ 18 := Nat.pow_le_pow_right (by decide) (by omega)
    have hu2 : u < 10000000000000000000 := by rw [Nat.pow_succ] at hu; omega
    rw [r40_Number_r, show decide ((u : Int) < 0) = false from decide_eq_false (by omega), cond_false]
    by_cases h10 : u < 10
    · rw [show decide ((u : Int) < 10) = true from decide_eq_true (by omega), cond_true, chk_pos (dig_ck h10), lt_eq, dig_at h10, dd_small h10]
    · have hm : Int.tmod (u : Int) 10 = ((u % 10 : Nat) : Int) := by rw [tmod_pos (by omega)]; omega
      have hd : w64 (Int.tdiv (u : Int) 10) = ((u / 10 : Nat) : Int) := by rw [tdiv_pos (by omega), w64_id (by omega) (by omega)]; omega
      have hl := dd_len k (u / 10) (by rw [Nat.pow_succ] at hu; omega)
      rw [show decide ((u : Int) < 10) = false from decide_eq_false (by omega), cond_false, hd, ih K (u / 10) (by rw [Nat.pow_succ] at hu; omega) (by omega) (by omega), Option.bind_some, hm, chk_pos (dig_ck (by omega)), lt_eq, dig_at (by omega), chk_pos (by unfold ln; simp only [List.length_cons, List.length_nil]; omega), dd_big h10]
/-- Numbers that the program's ints hold. -/
def In64 (n : Int) : Prop := -9223372036854775808 ≤ n ∧ n ≤ 9223372036854775807
theorem num_eq (m : Nat) (hm : 20 < m) {n : Int} (h : In64 n) : r40_Number m n = some (Lib.itoa n) := by
  unfold r40_Number Lib.itoa
  obtain ⟨h1, h2⟩ := h
  by_cases hn : n < 0
  · obtain ⟨u, rfl⟩ : ∃ u : Nat, n = -(u : Int) := ⟨n.natAbs, by omega⟩
    obtain ⟨K, rfl⟩ : ∃ q, m = q + 1 := ⟨m - 1, by omega⟩
    have hu : (-(u : Int)).natAbs = u := by omega
    have hm : w64 (0 - Int.tmod (-(u : Int)) 10) = ((u % 10 : Nat) : Int) := by
      rw [Int.neg_tmod, tmod_pos (by omega), w64_id (by omega) (by omega)]; omega
    have hd : w64 (0 - w64 (Int.tdiv (-(u : Int)) 10)) = ((u / 10 : Nat) : Int) := by
      rw [Int.neg_tdiv, tdiv_pos (by omega), w64_id (x := -((u : Int) / 10)) (by omega) (by omega), w64_id (by omega) (by omega)]; omega
    rw [if_pos hn, r40_Number_r, decide_eq_true hn, cond_true, hm, hd, chk_pos (dig_ck (by omega)), lt_eq, dig_at (by omega), hu]
    by_cases h10 : u < 10
    · rw [show decide ((-10 : Int) < -(u : Int)) = true from decide_eq_true (by omega), cond_true, chk_pos (by unfold ln; simp only [List.length_cons, List.length_nil]; omega), dd_small h10, show u % 10 = u from by omega]
      rfl
    · have hl := dd_len 18 (u / 10) (by show _ < 10000000000000000000; omega)
      rw [show decide ((-10 : Int) < -(u : Int)) = false from decide_eq_false (by omega), cond_false, num_nat (K + 1) 18 K (u / 10) (by show _ < 10000000000000000000; omega) (by decide) (by omega), Option.bind_some, chk_pos (by unfold ln; simp only [List.length_cons, List.length_nil]; omega),
        chk_pos (by unfold ln; simp only [List.length_append, List.length_cons, List.length_nil]; omega), dd_big h10]
      rfl
  · obtain ⟨u, rfl⟩ : ∃ u : Nat, n = (u : Int) := ⟨n.toNat, by omega⟩
    rw [if_neg hn, Int.toNat_natCast]
    exact num_nat m 18 m u (by show _ < 10000000000000000000; omega) (by decide) (by omega)
theorem x_itoa {n : Int} (h : In64 n) : x_Itoa n = some (Lib.itoa n) := by
  unfold x_Itoa
  rw [chk_pos ⟨h.1, h.2⟩, itoaS_eq ⟨h.1, h.2⟩]
theorem itoa_len {n : Int} (h : In64 n) : (Lib.itoa n).length ≤ 20 := by
  unfold Lib.itoa
  obtain ⟨h1, h2⟩ := h
  split
  · have := dd_len 18 n.natAbs (by show _ < 10000000000000000000; omega)
    simp only [List.length_cons]; omega
  · have := dd_len 18 n.toNat (by show _ < 10000000000000000000; omega)
    omega
/-! ## What an answer may be -/
def okA (a : TAnswer) : Bool := (decide (0 ≤ a.Err) && decide (a.Err ≤ 99)) && (decide (a.Texts.length ≤ 64) && (decide (tot a.Texts ≤ 20000) && decide (a.Numbers.length ≤ 64)))
theorem okA_iff {a : TAnswer} : okA a = true ↔ (0 ≤ a.Err ∧ a.Err ≤ 99) ∧ a.Texts.length ≤ 64 ∧ tot a.Texts ≤ 20000 ∧ a.Numbers.length ≤ 64 := by
  unfold okA
  simp only [Bool.and_eq_true, decide_eq_true_eq]
theorem okA_out (a : TAnswer) (n : Nat) (hn : a.Texts.length ≤ 64 → n = tot a.Texts) :
    (lt (cond (decide (a.Err < 0)) true (decide (99 < a.Err))) fun x24 => lt (cond x24 true (decide (64 < (ln a.Texts)))) fun x25 => lt (cond (cond x25 true (decide (20000 < (n : Int)))) true (decide (64 < (ln a.Numbers)))) fun x26 => cond x26 (some (8 : Int)) (some 0)) = some (cond (okA a) 0 8) := by
  rw [lt_eq, lt_eq, lt_eq]
  cases h : okA a with
  | true =>
    obtain ⟨⟨h1, h2⟩, h3, h4, h5⟩ := okA_iff.1 h
    rw [hn h3, decide_eq_false (show ¬ a.Err < 0 by omega), decide_eq_false (show ¬ 99 < a.Err by omega), decide_eq_false (show ¬ 64 < ln a.Texts by unfold ln; omega), decide_eq_false (show ¬ (20000 : Int) < (tot a.Texts : Int) by omega), decide_eq_false (show ¬ 64 < ln a.Numbers by unfold ln; omega)]
    rfl
  | false =>
    have : cond (cond (cond (cond (decide (a.Err < 0)) true (decide (99 < a.Err))) true (decide (64 < ln a.Texts))) true (decide (20000 < (n : Int)))) true (decide (64 < ln a.Numbers)) = true := by
      cases h1 : decide (a.Err < 0) with
      | true => rfl
      | false =>
        cases h2 : decide (99 < a.Err) with
        | true => rfl
        | false =>
          cases h3 : decide (64 < ln a.Texts) with
          | true => rfl
          | false =>
            have h3' : a.Texts.length ≤ 64 := by have := of_decide_eq_false h3; unfold ln at this; omega
            cases h4 : decide ((20000 : Int) < (n : Int)) with
            | true => rfl
            | false =>
              cases h5 : decide (64 < ln a.Numbers) with
              | true => rfl
              | false =>
                have e1 := of_decide_eq_false h1
                have e2 := of_decide_eq_false h2
                have e4 := of_decide_eq_false h4
                have e5 := of_decide_eq_false h5
                unfold ln at e5
                rw [hn h3'] at e4
                have := okA_iff.2 ⟨⟨by omega, by omega⟩, h3', by omega, by omega⟩
                rw [h] at this; cases this
    rw [this, cond_true]; rfl
theorem check_L1 (m : Nat) (a : TAnswer) (hl : a.Texts.length < 1000000) : ∀ (kk i z : Nat), a.Texts.length - i < kk → i ≤ a.Texts.length → z + tot (a.Texts.drop i) ≤ 100000000000 → answer_Check_L1 m a kk (z : Int) (i : Int) = some ((z + tot (a.Texts.drop i) : Nat) : Int) := by
  intro kk
  induction kk with
  | zero => intro i z h; omega
  | succ kk ih =>
    intro i z hk hi hz
    rw [answer_Check_L1]
    by_cases hlt : i < a.Texts.length
    · have hg : gi a.Texts (i : Int) = a.Texts[i] := gi_nat _ i hlt
      rw [List.drop_eq_getElem_cons hlt, tot_cons] at hz
      have e : w64 ((z : Int) + ln a.Texts[i]) = ((z + a.Texts[i].length : Nat) : Int) := by unfold ln; rw [w64_id (by omega) (by omega)]; omega
      rw [lt_dec hlt, cond_true, chk_ix hlt, hg, w64_ix (by omega), e, ih (i + 1) (z + a.Texts[i].length) (by omega) hlt (by omega), List.drop_eq_getElem_cons hlt, tot_cons, Nat.add_assoc]
    · rw [ge_dec (by omega), cond_false, List.drop_eq_nil_of_le (by omega)]
      rfl
theorem check_eq (m : Nat) (a : TAnswer) (hl : a.Texts.length < 1000000) (ht : tot a.Texts ≤ 10000000000) (hm : a.Texts.length < m) : answer_Check m a = some (cond (okA a) 0 8) := by
  unfold answer_Check
  have h1 := check_L1 m a hl m 0 0 (by omega) (by omega) (by rw [List.drop_zero]; omega)
  rw [List.drop_zero, Nat.zero_add] at h1
  rw [show answer_Check_L1 m a m 0 0 = _ from h1, Option.bind_some]
  exact okA_out a (tot a.Texts) fun _ => rfl
theorem rcheck_L1 (m : Nat) (a : TAnswer) (hl : a.Texts.length < 1000000) : ∀ (kk i z : Nat), 65 - i < kk → i ≤ 65 → i ≤ a.Texts.length → z + tot (a.Texts.drop i) ≤ 100000000000 → ∃ n : Nat, r40_Check_L1 m a kk (z : Int) (i : Int) = some (n : Int) ∧ (a.Texts.length ≤ 64 → n = z + tot (a.Texts.drop i)) := by
  intro kk
  induction kk with
  | zero => intro i z h; omega
  | succ kk ih =>
    intro i z hk h65 hi hz
    rw [r40_Check_L1]
    by_cases hlt : i < a.Texts.length
    · by_cases h64 : i ≤ 64
      · have hg : gi a.Texts (i : Int) = a.Texts[i] := gi_nat _ i hlt
        rw [List.drop_eq_getElem_cons hlt, tot_cons] at hz
        have e : w64 ((z : Int) + ln a.Texts[i]) = ((z + a.Texts[i].length : Nat) : Int) := by unfold ln; rw [w64_id (by omega) (by omega)]; omega
        obtain ⟨n, n1, n2⟩ := ih (i + 1) (z + a.Texts[i].length) (by omega) (by omega) hlt (by omega)
        refine ⟨n, ?_, fun h => by rw [n2 h, List.drop_eq_getElem_cons hlt, tot_cons]; omega⟩
        rw [lt_dec hlt, cond_true, show decide ((i : Int) ≤ 64) = true from decide_eq_true (by omega), lt_eq, cond_true, chk_ix hlt, hg, w64_ix (by omega), e]
        exact n1
      · refine ⟨z, ?_, fun h => by omega⟩
        rw [lt_dec hlt, cond_true, show decide ((i : Int) ≤ 64) = false from decide_eq_false (by omega), lt_eq, cond_false]
    · refine ⟨z, ?_, fun h => by rw [List.drop_eq_nil_of_le (by omega)]; rfl⟩
      rw [ge_dec (by omega), cond_false, lt_eq, cond_false]
theorem rcheck_eq (m : Nat) (a : TAnswer) (hl : a.Texts.length < 1000000) (ht : tot a.Texts ≤ 10000000000) (hm : 65 < m) : r40_Check m a = some (cond (okA a) 0 8) := by
  unfold r40_Check
  obtain ⟨n, n1, n2⟩ := rcheck_L1 m a hl m 0 0 (by omega) (by omega) (by omega) (by rw [List.drop_zero]; omega)
  rw [List.drop_zero, Nat.zero_add] at n2
  rw [show r40_Check_L1 m a m 0 0 = _ from n1, Option.bind_some]
  exact okA_out a n n2
/-! ## Lines -/
/-- What an answer is made of: numbers in range, texts that are not too long for the count of rounds. -/
structure In (m : Nat) (a : TAnswer) : Prop where
  err : In64 a.Err
  num : In64 a.Num
  nums : ∀ n ∈ a.Numbers, In64 n
  lenT : a.Texts.length < m
  lenN : a.Numbers.length < m
  txt : ∀ t ∈ a.Texts, t.length < m
  tot : tot a.Texts < 1000000000
def shown (a : TAnswer) : Str := Lib.itoa a.Err ++ ([32] ++ (Lib.itoa a.Num ++ ([32] ++ (ls (a.Texts.map qt) ++ ([32] ++ ls (a.Numbers.map Lib.itoa))))))
theorem tot_qt : ∀ l : List Str, tot (l.map qt) ≤ 4 * tot l + 2 * l.length
  | [] => by simp [tot]
  | x :: l => by
    have := tot_qt l
    have := chs_len x
    have e : (qt x).length = (chs x).length + 2 := by unfold qt; simp
    rw [List.map_cons, tot_cons, tot_cons, List.length_cons, e]; omega
theorem tot_it : ∀ l : List Int, (∀ n ∈ l, In64 n) → tot (l.map Lib.itoa) ≤ 20 * l.length
  | [], _ => by simp [tot]
  | x :: l, h => by
    have := tot_it l fun n hn => h n (List.mem_cons_of_mem _ hn)
    have := itoa_len (h x List.mem_cons_self)
    rw [List.map_cons, tot_cons, List.length_cons]; omega
theorem line_L1 (m : Nat) (hm : m ≤ 1000000) (a : TAnswer) (h : In m a) : ∀ (kk i : Nat) (acc : List Str), a.Texts.length - i < kk → i ≤ a.Texts.length → acc.length ≤ i → answer_Line_L1 m a kk acc (i : Int) = some (acc ++ (a.Texts.drop i).map qt) := by
  intro kk
  induction kk with
  | zero => intro i acc h; omega
  | succ kk ih =>
    intro i acc hk hi ha
    have hl := h.lenT
    rw [answer_Line_L1]
    by_cases hlt : i < a.Texts.length
    · have hg : gi a.Texts (i : Int) = a.Texts[i] := gi_nat _ i hlt
      have ht := h.txt _ (List.getElem_mem hlt)
      rw [lt_dec hlt, cond_true, chk_ix hlt, hg, quote_eq m _ (by omega) ht, Option.bind_some, chk_pos (by unfold ln; simp only [List.length_cons, List.length_nil]; omega), lt_eq, w64_ix (by omega), ih (i + 1) _ (by omega) hlt (by simp; omega), List.drop_eq_getElem_cons hlt, List.map_cons, List.append_assoc]
      rfl
    · rw [ge_dec (by omega), cond_false, List.drop_eq_nil_of_le (by omega)]
      simp
theorem line_L2 (m : Nat) (hm : m ≤ 1000000) (a : TAnswer) (h : In m a) : ∀ (kk i : Nat) (acc : List Str), a.Numbers.length - i < kk → i ≤ a.Numbers.length → acc.length ≤ i → answer_Line_L2 m a kk acc (i : Int) = some (acc ++ (a.Numbers.drop i).map Lib.itoa) := by
  intro kk
  induction kk with
  | zero => intro i acc h; omega
  | succ kk ih =>
    intro i acc hk hi ha
    have hl := h.lenN
    rw [answer_Line_L2]
    by_cases hlt : i < a.Numbers.length
    · have hg : gi a.Numbers (i : Int) = a.Numbers[i] := gi_nat _ i hlt
      have ht := h.nums _ (List.getElem_mem hlt)
      rw [lt_dec hlt, cond_true, chk_ix hlt, hg, x_itoa ht, Option.bind_some, chk_pos (by unfold ln; simp only [List.length_cons, List.length_nil]; omega), lt_eq, w64_ix (by omega), ih (i + 1) _ (by omega) hlt (by simp; omega), List.drop_eq_getElem_cons hlt, List.map_cons, List.append_assoc]
      rfl
    · rw [ge_dec (by omega), cond_false, List.drop_eq_nil_of_le (by omega)]
      simp
theorem shown_L1 (m : Nat) (hm : m ≤ 1000000) (a : TAnswer) (h : In m a) : ∀ (kk i : Nat) (acc : List Str), a.Texts.length - i < kk → i ≤ a.Texts.length → acc.length ≤ i → r40_Shown_L1 m a kk acc (i : Int) = some (acc ++ (a.Texts.drop i).map qt) := by
  intro kk
  induction kk with
  | zero => intro i acc h; omega
  | succ kk ih =>
    intro i acc hk hi ha
    have hl := h.lenT
    rw [r40_Shown_L1]
    by_cases hlt : i < a.Texts.length
    · have hg : gi a.Texts (i : Int) = a.Texts[i] := gi_nat _ i hlt
      have ht := h.txt _ (List.getElem_mem hlt)
      rw [lt_dec hlt, cond_true, chk_ix hlt, hg, rquote_eq m _ (by omega) ht, Option.bind_some, chk_pos (by unfold ln; simp only [List.length_cons, List.length_nil]; omega), lt_eq, w64_ix (by omega), ih (i + 1) _ (by omega) hlt (by simp; omega), List.drop_eq_getElem_cons hlt, List.map_cons, List.append_assoc]
      rfl
    · rw [ge_dec (by omega), cond_false, List.drop_eq_nil_of_le (by omega)]
      simp
theorem shown_L2 (m : Nat) (hm : m ≤ 1000000) (hm2 : 20 < m) (a : TAnswer) (h : In m a) : ∀ (kk i : Nat) (acc : List Str), a.Numbers.length - i < kk → i ≤ a.Numbers.length → acc.length ≤ i → r40_Shown_L2 m a kk acc (i : Int) = some (acc ++ (a.Numbers.drop i).map Lib.itoa) := by
  intro kk
  induction kk with
  | zero => intro i acc h; omega
  | succ kk ih =>
    intro i acc hk hi ha
    have hl := h.lenN
    rw [r40_Shown_L2]
    by_cases hlt : i < a.Numbers.length
    · have hg : gi a.Numbers (i : Int) = a.Numbers[i] := gi_nat _ i hlt
      have ht := h.nums _ (List.getElem_mem hlt)
      rw [lt_dec hlt, cond_true, chk_ix hlt, hg, num_eq m hm2 ht, Option.bind_some, chk_pos (by unfold ln; simp only [List.length_cons, List.length_nil]; omega), lt_eq, w64_ix (by omega), ih (i + 1) _ (by omega) hlt (by simp; omega), List.drop_eq_getElem_cons hlt, List.map_cons, List.append_assoc]
      rfl
    · rw [ge_dec (by omega), cond_false, List.drop_eq_nil_of_le (by omega)]
      simp
theorem ls_len (l : List Str) : (ls l).length ≤ tot l + 2 * l.length + 2 := by
  have := jn_len [44, 32] l
  unfold ls
  simp only [List.length_cons, List.length_append, List.length_nil] at this ⊢
  omega
theorem line_eq (m : Nat) (hm : m ≤ 1000000) (hm2 : 20 < m) (a : TAnswer) (h : In m a) : answer_Line m a = some (cond (okA a) (shown a, 0) ([], 8)) := by
  have hT := h.lenT
  have hN := h.lenN
  have hto := h.tot
  unfold answer_Line
  rw [check_eq m a (by omega) (by omega) hT, Option.bind_some]
  cases okA a with
  | false => rfl
  | true =>
    have q1 := line_L1 m hm a h m 0 [] (by omega) (by omega) (by simp)
    have q2 := line_L2 m hm a h m 0 [] (by omega) (by omega) (by simp)
    rw [List.drop_zero, List.nil_append] at q1 q2
    have t1 := tot_qt a.Texts
    have t2 := tot_it a.Numbers h.nums
    have l1 := ls_len (a.Texts.map qt)
    have l2 := ls_len (a.Numbers.map Lib.itoa)
    have i1 := itoa_len h.err
    have i2 := itoa_len h.num
    rw [List.length_map] at l1 l2
    rw [show ((cond true (0 : Int) 8) != 0) = false from rfl, cond_false, show answer_Line_L1 m a m [] 0 = _ from q1, Option.bind_some, show answer_Line_L2 m a m [] 0 = _ from q2, Option.bind_some, x_itoa h.err, Option.bind_some, x_itoa h.num, Option.bind_some, list_eq m _ (by rw [List.length_map]; omega) (by rw [List.length_map]; omega) (by omega), Option.bind_some, list_eq m _ (by rw [List.length_map]; omega) (by rw [List.length_map]; omega) (by omega), Option.bind_some,
      join_eq m _ [32] ⟨by decide, by decide⟩ (by simp) (by simp; omega) (by simp only [tot, List.map_cons, List.map_nil, List.sum_cons, List.sum_nil]; omega), Option.bind_some]
    unfold jn shown
    simp
theorem rshow_eq (m : Nat) (hm : m ≤ 1000000) (hm2 : 65 < m) (a : TAnswer) (h : In m a) : r40_Shown m a = some (shown a) ∧ r40_Check m a = some (cond (okA a) 0 8) := by
  have hT := h.lenT
  have hN := h.lenN
  have hto := h.tot
  have hs : r40_Shown m a = some (shown a) := by
    have q1 := shown_L1 m hm a h m 0 [] (by omega) (by omega) (by simp)
    have q2 := shown_L2 m hm (by omega) a h m 0 [] (by omega) (by omega) (by simp)
    rw [List.drop_zero, List.nil_append] at q1 q2
    have t1 := tot_qt a.Texts
    have t2 := tot_it a.Numbers h.nums
    have l1 := ls_len (a.Texts.map qt)
    have l2 := ls_len (a.Numbers.map Lib.itoa)
    have i1 := itoa_len h.err
    have i2 := itoa_len h.num
    rw [List.length_map] at l1 l2
    unfold r40_Shown
    have hck : ∀ {α β : Type} (x : List α) (y : List β), x.length ≤ 100000000000 → y.length ≤ 100000000000 → ln x + ln y ≤ 9223372036854775807 := fun x y hx hy => by unfold ln; omega
    rw [show r40_Shown_L1 m a m [] 0 = _ from q1, Option.bind_some, show r40_Shown_L2 m a m [] 0 = _ from q2, Option.bind_some, num_eq m (by omega) h.err, Option.bind_some, num_eq m (by omega) h.num, chk_pos (hck _ _ (by omega) (by decide)), Option.bind_some, listed_eq m _ (by rw [List.length_map]; omega) (by rw [List.length_map]; omega) (by omega)]
    rw [chk_pos (hck _ _ (by simp only [List.length_append, List.length_cons, List.length_nil]; omega) (by omega))]
    rw [chk_pos (hck _ _ (by simp only [List.length_append, List.length_cons, List.length_nil]; omega) (by decide)), Option.bind_some]
    rw [chk_pos (hck _ _ (by simp only [List.length_append, List.length_cons, List.length_nil]; omega) (by omega))]
    rw [chk_pos (hck _ _ (by simp only [List.length_append, List.length_cons, List.length_nil]; omega) (by decide)), lt_eq, listed_eq m _ (by rw [List.length_map]; omega) (by rw [List.length_map]; omega) (by omega), Option.bind_some]
    rw [chk_pos (hck _ _ (by simp only [List.length_append, List.length_cons, List.length_nil]; omega) (by omega))]
    unfold shown
    simp
  have hc := rcheck_eq m a (by omega) (by omega) hm2
  exact ⟨hs, hc⟩
end Go.Proofs.YtipafpkdkhnjmaaGreatDoor

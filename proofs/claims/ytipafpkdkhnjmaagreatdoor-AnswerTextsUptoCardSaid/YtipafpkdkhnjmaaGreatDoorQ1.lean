/-
  Answers as text: what is written, by both writers. No program in sight.
-/
import Derived.Test.YtipafpkdkhnjmaaGreatDoorVP
import Derived.Test.YtipafpkdkhnjmaaGreatDoorM
set_option linter.unusedVariables false
set_option maxRecDepth 100000
namespace Go.Proofs.YtipafpkdkhnjmaaGreatDoor
open Go Go.V Go.RowKit
/-! ## Bytes -/
theorem nat_all {p : Nat → Bool} {N : Nat} (h : ((List.range N).all p) = true) {n : Nat} (hn : n < N) : p n = true := List.all_eq_true.1 h n (List.mem_range.2 hn)
theorem toB_ofB (s : Str) : toB (ofB s) = s := by
  unfold toB ofB
  rw [List.map_map]
  conv => rhs; rw [← List.map_id s]
  congr 1; funext c; simp
theorem ofB_len (a : Str) : (ofB a).length = a.length := List.length_map ..
theorem of_nat (b : UInt8) : UInt8.ofNat b.toNat = b := by simp
/-- A digit to the base 16. -/
def hexD (n : Nat) : UInt8 := if n < 10 then UInt8.ofNat (48 + n) else UInt8.ofNat (87 + n)
/-- How a byte stands in quotes. -/
def ch (b : UInt8) : Str :=
  if b.toNat = 34 ∨ b.toNat = 92 then [92, b] else if b.toNat = 10 then [92, 110] else if 32 ≤ b.toNat ∧ b.toNat ≤ 126 then [b] else [92, 120, hexD (b.toNat / 16), hexD (b.toNat % 16)]
theorem ch_len (b : UInt8) : 1 ≤ (ch b).length ∧ (ch b).length ≤ 4 := by
  unfold ch
  split
  · exact ⟨by simp, by simp⟩
  · split
    · exact ⟨by simp, by simp⟩
    · split
      · exact ⟨by simp, by simp⟩
      · exact ⟨by simp, by simp⟩
def chs (s : Str) : Str := s.flatMap ch
theorem chs_cons (b : UInt8) (s : Str) : chs (b :: s) = ch b ++ chs s := rfl
theorem chs_len : ∀ s : Str, s.length ≤ (chs s).length ∧ (chs s).length ≤ 4 * s.length
  | [] => ⟨Nat.le_refl _, Nat.le_refl _⟩
  | b :: s => by
    have := ch_len b
    have := chs_len s
    rw [chs_cons, List.length_append, List.length_cons]; omega
/-- A text in quotes. -/
def qt (s : Str) : Str := 34 :: (chs s ++ [34])
abbrev DIG : Str := [48, 49, 50, 51, 52, 53, 54, 55, 56, 57, 97, 98, 99, 100, 101, 102]
theorem hex_all : ((List.range 256).all fun n => (bat DIG (Int.fdiv (n : Int) (2 ^ 4)) == ((hexD (n / 16)).toNat : Int) && decide (0 ≤ Int.fdiv (n : Int) (2 ^ 4)) && decide (Int.fdiv (n : Int) (2 ^ 4) < 16) && (bat DIG (ibit .and .u8 (n : Int) 15) == ((hexD (n % 16)).toNat : Int)) && decide (0 ≤ ibit .and .u8 (n : Int) 15) && decide (ibit .and .u8 (n : Int) 15 < 16))) = true := by kernel_rfl
theorem hex_at {n : Nat} (h : n < 256) : bat DIG (Int.fdiv (n : Int) (2 ^ 4)) = ((hexD (n / 16)).toNat : Int) ∧ (0 ≤ Int.fdiv (n : Int) (2 ^ 4) ∧ Int.fdiv (n : Int) (2 ^ 4) < 16) ∧ bat DIG (ibit .and .u8 (n : Int) 15) = ((hexD (n % 16)).toNat : Int) ∧ 0 ≤ ibit .and .u8 (n : Int) 15 ∧ ibit .and .u8 (n : Int) 15 < 16 := by
  have h1 := nat_all hex_all h
  simp only [Bool.and_eq_true, beq_iff_eq, decide_eq_true_eq] at h1
  exact ⟨h1.1.1.1.1.1, ⟨h1.1.1.1.1.2, h1.1.1.1.2⟩, h1.1.1.2, h1.1.2, h1.2⟩
theorem toB_1 (b : UInt8) : toB [((b.toNat : Nat) : Int)] = [b] := by unfold toB; simp
theorem char_all : ((List.range 256).all fun n => r40_Char (n : Int) == some (ch (UInt8.ofNat n))) = true := by kernel_rfl
theorem char_at (b : UInt8) : r40_Char (b.toNat : Int) = some (ch b) := by
  have h := nat_all char_all b.toNat_lt
  rw [of_nat] at h
  exact eq_of_beq h
/-! ## Quotes -/
theorem quote_L1 (m : Nat) (s : Str) (hs : s.length ≤ 10000000) : ∀ (kk i : Nat) (acc : Str), s.length - i < kk → i ≤ s.length → acc.length ≤ 4 * i + 1 → answer_quote_L1 m s kk (i : Int) acc = some (acc ++ chs (s.drop i)) := by
  intro kk
  induction kk with
  | zero => intro i acc h; omega
  | succ kk ih =>
    intro i acc hk hi ha
    rw [answer_quote_L1]
    by_cases hlt : i < s.length
    · have hbl := (s[i]).toNat_lt
      have hb : bat s (i : Int) = ((s[i].toNat : Nat) : Int) := bat_nat s i hlt
      obtain ⟨x1, ⟨x2, x3⟩, x4, x5, x6⟩ := hex_at hbl
      have hd1 := (hexD (s[i].toNat / 16)).toNat_lt
      have hd2 := (hexD (s[i].toNat % 16)).toNat_lt
      have step : ∀ z : Str, z = acc ++ ch s[i] → answer_quote_L1 m s kk (w64 ((i : Int) + 1)) z = some (acc ++ chs (s.drop i)) := by
        intro z hz
        have hcl := ch_len s[i]
        rw [w64_ix (by omega), ih (i + 1) z (by omega) hlt (by rw [hz, List.length_append]; omega), hz, List.drop_eq_getElem_cons hlt, chs_cons, List.append_assoc]
      rw [lt_dec hlt, cond_true, chk_ix hlt, hb]
      by_cases h10 : s[i].toNat = 10
      · rw [show (((s[i].toNat : Nat) : Int) == 10) = true from by rw [h10]; rfl, cond_true, chk_pos (by unfold ln; simp only [List.length_cons, List.length_nil]; omega), lt_eq, Option.bind_some, Option.bind_some]
        unfold sumK
        dsimp only
        rw [Option.bind_some]
        exact step _ (by unfold ch; rw [if_neg (by omega), if_pos h10])
      · rw [show (((s[i].toNat : Nat) : Int) == 10) = false from beq_eq_false_iff_ne.2 (by omega), cond_false]
        by_cases hpr : 32 ≤ s[i].toNat ∧ s[i].toNat ≤ 126
        · rw [show cond (decide (((s[i].toNat : Nat) : Int) < 32)) true (decide (126 < ((s[i].toNat : Nat) : Int))) = false from by rw [decide_eq_false (by omega), decide_eq_false (by omega)]; rfl, lt_eq, cond_false]
          by_cases hq : s[i].toNat = 34 ∨ s[i].toNat = 92
          · rw [show cond (((s[i].toNat : Nat) : Int) == 34) true (((s[i].toNat : Nat) : Int) == 92) = true from by rcases hq with h | h <;> rw [h] <;> rfl, lt_eq, cond_true, chk_pos (by unfold ln; omega), lt_eq, Option.bind_some]
            unfold sumK
            dsimp only
            rw [chk_pos ⟨by omega, by omega⟩, chk_pos (by unfold ln; rw [List.length_append]; simp only [toB, List.map_cons, List.map_nil, List.length_cons, List.length_nil]; omega), lt_eq, Option.bind_some, toB_1]
            exact step _ (by unfold ch; rw [if_pos hq, List.append_assoc]; rfl)
          · rw [show cond (((s[i].toNat : Nat) : Int) == 34) true (((s[i].toNat : Nat) : Int) == 92) = false from by
              rw [show (((s[i].toNat : Nat) : Int) == 34) = false from beq_eq_false_iff_ne.2 (by omega), show (((s[i].toNat : Nat) : Int) == 92) = false from beq_eq_false_iff_ne.2 (by omega)]; rfl, lt_eq, cond_false, Option.bind_some]
            unfold sumK
            dsimp only
            rw [chk_pos ⟨by omega, by omega⟩, chk_pos (by unfold ln; omega), lt_eq, Option.bind_some, toB_1]
            exact step _ (by unfold ch; rw [if_neg hq, if_neg h10, if_pos hpr])
        · have hc : cond (decide (((s[i].toNat : Nat) : Int) < 32)) true (decide (126 < ((s[i].toNat : Nat) : Int))) = true := by
            by_cases h : s[i].toNat < 32
            · rw [decide_eq_true (by omega)]; rfl
            · rw [decide_eq_false (by omega), decide_eq_true (by omega)]; rfl
          rw [hc, lt_eq, cond_true, chk_pos (by unfold ln; simp only [List.length_cons, List.length_nil]; omega), lt_eq, chk_pos ⟨x2, x3⟩, lt_eq, x1, chk_pos ⟨by omega, by omega⟩, chk_pos (by unfold ln; rw [List.length_append]; simp only [List.length_cons, List.length_nil]; omega), lt_eq, chk_pos ⟨x5, x6⟩, lt_eq, x4, chk_pos ⟨by omega, by omega⟩,
            chk_pos (by unfold ln; rw [List.length_append, List.length_append]; simp only [toB, List.map_cons, List.map_nil, List.length_cons, List.length_nil]; omega), lt_eq, Option.bind_some, Option.bind_some]
          unfold sumK
          dsimp only
          rw [Option.bind_some, toB_1, toB_1]
          exact step _ (by unfold ch; rw [if_neg (by omega), if_neg h10, if_neg hpr]; simp)
    · rw [ge_dec (by omega), cond_false, List.drop_eq_nil_of_le (by omega)]
      show some acc = some (acc ++ [])
      rw [List.append_nil]
theorem quote_eq (m : Nat) (s : Str) (hs : s.length ≤ 10000000) (hm : s.length < m) : answer_quote m s = some (qt s) := by
  unfold answer_quote
  have hl := chs_len s
  have h1 := quote_L1 m s hs m 0 [34] (by omega) (by omega) (by simp)
  rw [chk_pos (by decide), lt_eq, show answer_quote_L1 m s m 0 ([] ++ toB [34]) = _ from h1, Option.bind_some, chk_pos (by unfold ln; rw [List.length_append, List.drop_zero]; simp only [List.length_cons, List.length_nil]; omega), lt_eq, List.drop_zero]
  rfl
theorem ofB_app (a b : Str) : ofB (a ++ b) = ofB a ++ ofB b := List.map_append ..
theorem rquote_L1 (m : Nat) (s : Str) (hs : s.length ≤ 10000000) : ∀ (kk i : Nat) (acc : List Int), s.length - i < kk → i ≤ s.length → acc.length ≤ 4 * i + 1 → r40_Quoted_L1 m s kk acc (i : Int) = some (acc ++ ofB (chs (s.drop i))) := by
  intro kk
  induction kk with
  | zero => intro i acc h; omega
  | succ kk ih =>
    intro i acc hk hi ha
    rw [r40_Quoted_L1]
    by_cases hlt : i < s.length
    · have hcl := ch_len s[i]
      rw [lt_dec hlt, cond_true, chk_ix hlt, bat_nat s i hlt, char_at, Option.bind_some, chk_pos (by unfold ln; omega), lt_eq, w64_ix (by omega), ih (i + 1) _ (by omega) hlt (by rw [List.length_append, ofB_len]; omega), List.drop_eq_getElem_cons hlt, chs_cons, ofB_app, List.append_assoc]
    · rw [ge_dec (by omega), cond_false, List.drop_eq_nil_of_le (by omega)]
      show some acc = some (acc ++ [])
      rw [List.append_nil]
theorem rquote_eq (m : Nat) (s : Str) (hs : s.length ≤ 10000000) (hm : s.length < m) : r40_Quoted m s = some (qt s) := by
  unfold r40_Quoted
  have hl := chs_len s
  have h1 := rquote_L1 m s hs m 0 [34] (by omega) (by omega) (by simp)
  rw [show r40_Quoted_L1 m s m [34] 0 = _ from h1, Option.bind_some, chk_pos (by unfold ln; rw [List.length_append, ofB_len, List.drop_zero]; simp only [List.length_cons, List.length_nil]; omega), lt_eq, List.drop_zero]
  have e : ([34] ++ ofB (chs s)) ++ [34] = ofB (qt s) := by
    show 34 :: (ofB (chs s) ++ [34]) = _
    unfold qt
    rw [show (34 :: (chs s ++ [34]) : Str) = [34] ++ chs s ++ [34] from rfl, ofB_app, ofB_app]; rfl
  rw [e, toB_ofB]
/-! ## Lists -/
def tot (l : List Str) : Nat := (l.map List.length).sum
theorem tot_cons (x : Str) (l : List Str) : tot (x :: l) = x.length + tot l := by simp [tot]
/-- Texts with another one between them. -/
def jn (sep : Str) : List Str → Str
  | [] => []
  | x :: r => x ++ r.flatMap (sep ++ ·)
theorem fm_len (sep : Str) : ∀ r : List Str, (r.flatMap (sep ++ ·)).length = tot r + r.length * sep.length
  | [] => by simp [tot]
  | x :: r => by
    rw [List.flatMap_cons, List.length_append, List.length_append, fm_len sep r, tot_cons, List.length_cons, Nat.add_mul]; omega
theorem jn_L1 (m : Nat) (l : List Str) (hl : l.length < 1000000) : ∀ (kk i z : Nat), l.length - i < kk → i ≤ l.length → z + tot (l.drop i) ≤ 100000000000 → strings_Join_L1 m l kk (z : Int) (i : Int) = some ((z + tot (l.drop i) : Nat) : Int) := by
  intro kk
  induction kk with
  | zero => intro i z h; omega
  | succ kk ih =>
    intro i z hk hi hz
    rw [strings_Join_L1]
    by_cases hlt : i < l.length
    · have hg : gi l (i : Int) = l[i] := gi_nat l i hlt
      rw [List.drop_eq_getElem_cons hlt, tot_cons] at hz
      rw [lt_dec hlt, cond_true, chk_ix hlt, hg, w64_id (x := 9223372036854775807 - (z : Int)) (by omega) (by omega), show decide (9223372036854775807 - (z : Int) < ln l[i]) = false from decide_eq_false (by unfold ln; omega), lt_eq, cond_false, w64_ix (by omega)]
      have e : w64 ((z : Int) + ln l[i]) = ((z + l[i].length : Nat) : Int) := by unfold ln; rw [w64_id (by omega) (by omega)]; omega
      rw [e, ih (i + 1) (z + l[i].length) (by omega) hlt (by omega), List.drop_eq_getElem_cons hlt, tot_cons, Nat.add_assoc]
    · rw [ge_dec (by omega), cond_false, List.drop_eq_nil_of_le (by omega)]
      rfl
theorem jn_L2 (m : Nat) (sep : Str) (hsp : sep.length ≤ 10) (l : List Str) (hl : l.length < 1000000) : ∀ (kk i : Nat) (acc : Str), l.length - i < kk → i ≤ l.length → acc.length + ((l.drop i).flatMap (sep ++ ·)).length ≤ 1000000000000 → strings_Join_L2 m sep l kk (i : Int) acc = some (acc ++ (l.drop i).flatMap (sep ++ ·)) := by
  intro kk
  induction kk with
  | zero => intro i z h; omega
  | succ kk ih =>
    intro i acc hk hi hz
    rw [strings_Join_L2]
    by_cases hlt : i < l.length
    · have hg : gi l (i : Int) = l[i] := gi_nat l i hlt
      rw [List.drop_eq_getElem_cons hlt, List.flatMap_cons, List.length_append, List.length_append] at hz
      rw [lt_dec hlt, cond_true, chk_ix hlt, hg, chk_pos (by unfold ln; omega), lt_eq, chk_pos (by unfold ln; rw [List.length_append]; omega), lt_eq, w64_ix (by omega), ih (i + 1) _ (by omega) hlt (by rw [List.length_append, List.length_append]; omega), List.drop_eq_getElem_cons hlt, List.flatMap_cons]
      simp
    · rw [ge_dec (by omega), cond_false, List.drop_eq_nil_of_le (by omega)]
      show some acc = some (acc ++ [])
      rw [List.append_nil]
theorem join_eq (m : Nat) (l : List Str) (sep : Str) (hs : 1 ≤ sep.length ∧ sep.length ≤ 10) (hl : l.length < 1000000) (hm : l.length < m) (ht : tot l ≤ 10000000000) : strings_Join m l sep = some (jn sep l) := by
  unfold strings_Join
  match l, hl, hm, ht with
  | [], _, _, _ => rfl
  | [x], _, _, _ => simp [jn, gi, ln, chk]
  | x :: y :: r, hl, hm, ht =>
    generalize hR : y :: r = R at *
    have hRl : 1 ≤ R.length := by rw [← hR]; simp
    have hln : ln (x :: R) = ((R.length + 1 : Nat) : Int) := rfl
    rw [tot_cons] at ht
    simp only [List.length_cons] at hl hm
    rw [hln, show (((R.length + 1 : Nat) : Int) == 0) = false from beq_eq_false_iff_ne.2 (by omega), cond_false, show (((R.length + 1 : Nat) : Int) == 1) = false from beq_eq_false_iff_ne.2 (by omega), cond_false]
    have hw : w64 (((R.length + 1 : Nat) : Int) - 1) = (R.length : Int) := by rw [w64_id (by omega) (by omega)]; omega
    have hsl : ln sep = (sep.length : Int) := rfl
    rw [hw, hsl, show decide ((0 : Int) < (sep.length : Int)) = true from decide_eq_true (by omega), cond_true, chk_pos (by omega), lt_eq]
    have hq : Int.tdiv 9223372036854775807 (R.length : Int) = 9223372036854775807 / (R.length : Int) := tdiv_pos (by omega)
    have hq2 : (9223372036854 : Int) ≤ 9223372036854775807 / (R.length : Int) := by
      rw [Int.le_ediv_iff_mul_le (by omega)]
      omega
    have hq3 : 9223372036854775807 / (R.length : Int) ≤ 9223372036854775807 := by
      refine Int.ediv_le_self _ (by omega)
    rw [hq, w64_id (x := 9223372036854775807 / (R.length : Int)) (by omega) (by omega), show decide (9223372036854775807 / (R.length : Int) ≤ (sep.length : Int)) = false from decide_eq_false (by omega), cond_false, lt_eq, Option.bind_some]
    have hmul : sep.length * R.length ≤ 10 * R.length := Nat.mul_le_mul_right _ hs.2
    have hz : w64 (0 + w64 ((sep.length : Int) * (R.length : Int))) = ((sep.length * R.length : Nat) : Int) := by
      have e : (sep.length : Int) * (R.length : Int) = ((sep.length * R.length : Nat) : Int) := by simp
      rw [e, w64_id (x := ((sep.length * R.length : Nat) : Int)) (by omega) (by omega), w64_id (by omega) (by omega)]; omega
    rw [hz]
    have h1 := jn_L1 m (x :: R) (by simp; omega) m 0 (sep.length * R.length) (by simp; omega) (by omega) (by rw [List.drop_zero, tot_cons]; omega)
    rw [List.drop_zero, tot_cons] at h1
    rw [show strings_Join_L1 m (x :: R) m ((sep.length * R.length : Nat) : Int) 0 = _ from h1, Option.bind_some, chk_pos ⟨by omega, by omega⟩, chk_pos ⟨by omega, by omega⟩]
    have hg : gi (x :: R) (0 : Int) = x := rfl
    rw [hg, chk_pos (by unfold ln; simp only [List.length_nil]; omega), lt_eq, chk_pos ⟨by omega, by omega, Int.le_refl _⟩]
    have hsub : subl (x :: R) (1 : Int) ((R.length + 1 : Nat) : Int) = R := by
      unfold subl
      rw [Int.toNat_natCast]
      show (R.take (R.length + 1 - 1)) = R
      rw [Nat.add_sub_cancel, List.take_length]
    rw [hsub, lt_eq]
    have hfl := fm_len sep R
    have h2 := jn_L2 m sep hs.2 R (by omega) m 0 x (by omega) (by omega) (by rw [List.drop_zero, hfl, Nat.mul_comm]; omega)
    rw [show strings_Join_L2 m sep R m 0 ([] ++ x) = _ from h2, Option.bind_some, List.drop_zero]
    rfl
/-- A list. -/
def ls (l : List Str) : Str := 91 :: (jn [44, 32] l ++ [93])
theorem jn_len (sep : Str) (l : List Str) : (jn sep l).length ≤ tot l + l.length * sep.length := by
  cases l with
  | nil => simp [jn]
  | cons x r => unfold jn; rw [List.length_append, fm_len, tot_cons, List.length_cons, Nat.add_mul]; omega
theorem list_eq (m : Nat) (l : List Str) (hl : l.length < 1000000) (hm : l.length < m) (ht : tot l ≤ 10000000000) : answer_list m l = some (ls l) := by
  unfold answer_list
  have hj := jn_len [44, 32] l
  simp only [List.length_cons, List.length_nil] at hj
  rw [join_eq m l [44, 32] ⟨by decide, by decide⟩ hl hm ht, Option.bind_some, chk_pos (by unfold ln; simp only [List.length_cons, List.length_nil]; omega), chk_pos (by unfold ln; simp only [List.length_cons, List.length_nil, List.length_append]; omega)]
  rfl
theorem listed_L1 (m : Nat) (l : List Str) (hl : l.length < 1000000) : ∀ (kk i : Nat) (acc : List Int), l.length - i < kk → 1 ≤ i → i ≤ l.length → acc.length + ((l.drop i).flatMap ([44, 32] ++ ·)).length ≤ 100000000000 → r40_Listed_L1 m l kk acc (i : Int) = some (acc ++ ofB ((l.drop i).flatMap ([44, 32] ++ ·))) := by
  intro kk
  induction kk with
  | zero => intro i z h; omega
  | succ kk ih =>
    intro i acc hk h1 hi hz
    rw [r40_Listed_L1]
    by_cases hlt : i < l.length
    · have hg : gi l (i : Int) = l[i] := gi_nat l i hlt
      rw [List.drop_eq_getElem_cons hlt, List.flatMap_cons, List.length_append, List.length_append] at hz
      simp only [List.length_cons, List.length_nil] at hz
      rw [lt_dec hlt, cond_true, show decide ((0 : Int) < (i : Int)) = true from decide_eq_true (by omega), cond_true, chk_pos (by unfold ln; simp only [List.length_cons, List.length_nil]; omega), lt_eq, Option.bind_some, chk_ix hlt, hg, chk_pos (by unfold ln; rw [List.length_append, ofB_len]; simp only [List.length_cons, List.length_nil]; omega), lt_eq, w64_ix (by omega),
        ih (i + 1) _ (by omega) (by omega) hlt (by rw [List.length_append, List.length_append, ofB_len, ofB_len]; simp only [List.length_cons, List.length_nil]; omega), List.drop_eq_getElem_cons hlt, List.flatMap_cons, ofB_app, ofB_app]
      simp
    · rw [ge_dec (by omega), cond_false, List.drop_eq_nil_of_le (by omega)]
      show some acc = some (acc ++ [])
      rw [List.append_nil]
theorem listed_eq (m : Nat) (l : List Str) (hl : l.length < 1000000) (hm : l.length < m) (ht : tot l ≤ 10000000000) : r40_Listed m l = some (ls l) := by
  unfold r40_Listed
  obtain ⟨k, rfl⟩ : ∃ k, m = k + 1 := ⟨m - 1, by omega⟩
  have key : ∃ z, r40_Listed_L1 (k + 1) l (k + 1) [91] 0 = some z ∧ z = 91 :: ofB (jn [44, 32] l) := by
    rw [r40_Listed_L1]
    cases l with
    | nil => exact ⟨_, rfl, rfl⟩
    | cons x r =>
      have hd : decide ((0 : Int) < ln (x :: r)) = true := decide_eq_true (by unfold ln; simp only [List.length_cons]; omega)
      rw [tot_cons] at ht
      simp only [List.length_cons] at hl hm
      have hfl := fm_len [44, 32] r
      simp only [List.length_cons, List.length_nil] at hfl
      rw [hd, cond_true, show decide ((0 : Int) < (0 : Int)) = false from rfl, cond_false, Option.bind_some, chk_pos ⟨by omega, of_decide_eq_true hd⟩, show gi (x :: r) (0 : Int) = x from rfl, chk_pos (by unfold ln; simp only [List.length_cons, List.length_nil]; omega), lt_eq]
      have h1 := listed_L1 (k + 1) (x :: r) (by simp; omega) k 1 ([91] ++ ofB x) (by simp; omega) (by omega) (by simp) (by rw [List.length_append, ofB_len]; simp only [List.length_cons, List.length_nil, List.drop_succ_cons, List.drop_zero]; omega)
      rw [show w64 ((0 : Int) + 1) = ((1 : Nat) : Int) from rfl, h1]
      refine ⟨_, rfl, ?_⟩
      unfold jn
      rw [ofB_app]
      simp
  obtain ⟨z, z1, rfl⟩ := key
  have hj := jn_len [44, 32] l
  simp only [List.length_cons, List.length_nil] at hj
  rw [z1, Option.bind_some, chk_pos (by unfold ln; simp only [List.length_cons, List.length_nil, ofB_len]; omega), lt_eq]
  have e : (91 :: ofB (jn [44, 32] l)) ++ [93] = ofB (ls l) := by
    unfold ls
    rw [show (91 :: (jn [44, 32] l ++ [93]) : Str) = [91] ++ (jn [44, 32] l ++ [93]) from rfl, ofB_app, ofB_app]; rfl
  rw [e, toB_ofB]
end Go.Proofs.YtipafpkdkhnjmaaGreatDoor

/-
 Pieces of a text: clean texts, marks, names, numbers with what follows. No program in sight.
-/
import Derived.Test.YtemchjneoalnoaaGreatDoorA4
set_option linter.unusedVariables false
namespace Go.Proofs.YtemchjneoalnoaaGreatDoor
open Go Go.V
set_option maxRecDepth 100000
theorem tst_at0 {p : UInt8 → Bool} {s : Str} {i : Nat} {b : UInt8} {r : Str} (h : s.drop i = b :: r) : tst p s i = p b := by
 have e : s[i]? = (s.drop i)[0]? := by rw [List.getElem?_drop, Nat.add_zero]
 unfold tst
 rw [e, h]
 rfl
theorem tst_nil {p : UInt8 → Bool} {s : Str} {i : Nat} (h : s.drop i = []) : tst p s i = false := by
 have e : s[i]? = (s.drop i)[0]? := by rw [List.getElem?_drop, Nat.add_zero]
 unfold tst
 rw [e, h]
 rfl
theorem drop_len {s : Str} {i : Nat} {b : UInt8} {r : Str} (h : s.drop i = b :: r) : i < s.length := by
 rcases Nat.lt_or_ge i s.length with h1 | h1
 ·exact h1
 ·rw [List.drop_eq_nil_of_le h1] at h; cases h
theorem drop_nx {s : Str} {i : Nat} {b : UInt8} {r : Str} (h : s.drop i = b :: r) : s.drop (i + 1) = r := by
 rw [← List.drop_drop, h]; rfl
theorem drop_ap {s : Str} {i : Nat} {a r : Str} (h : s.drop i = a ++ r) : s.drop (i + a.length) = r := by
 rw [← List.drop_drop, h, List.drop_left]
theorem drop_le {s : Str} {i : Nat} {a r : Str} (hi : i ≤ s.length) (h : s.drop i = a ++ r) : i + a.length + r.length = s.length := by
 have := congrArg List.length h
 rw [List.length_drop, List.length_append] at this
 omega
theorem get_at {s : Str} {i : Nat} {b : UInt8} {r : Str} (h : s.drop i = b :: r) : bat s (i : Int) = (b.toNat : Int) := by
 have hi := drop_len h
 rw [bat_nat s i hi]
 have : s[i] = b := by
  have e := List.drop_eq_getElem_cons hi
  rw [h] at e
  exact (List.cons.inj e).1.symm
 rw [this]
def clB (b : UInt8) : Bool := decide (32 ≤ b.toNat)
theorem cleaned_id (m : Nat) (s : Str) (hs : s.length ≤ 1000) (hc : ∀ b ∈ s, clB b = true) : ∀ (kk i : Nat), s.length - i < kk → i ≤ s.length → r01_Cleaned_L1 m s kk (s.take i) (i : Int) = some s := by
 intro kk
 induction kk with
 | zero => intro i h; omega
 | succ kk ih =>
  intro i h hi
  rw [r01_Cleaned_L1]
  by_cases h1 : i < s.length
  ·have hb : 32 ≤ s[i].toNat := of_decide_eq_true (hc _ (List.getElem_mem h1))
   have hb2 := s[i].toNat_lt
   rw [lt_dec h1, cond_true, chk_ix h1, bat_nat s i h1]
   rw [show ((s[i].toNat : Int) == 10) = false from beq_eq_false_iff_ne.2 (by omega), cond_false, lt_eq, chk_pos (fun h => by cases h), cond_false, lt_eq, cond_false, show ((s[i].toNat : Int) == 13) = false from beq_eq_false_iff_ne.2 (by omega), show ((s[i].toNat : Int) == 12) = false from beq_eq_false_iff_ne.2 (by omega), cond_false, lt_eq, cond_false, Option.bind_some, show ((s[i].toNat : Int) == 0) = false from beq_eq_false_iff_ne.2 (by omega), cond_false, chk_pos (by unfold ln toB; rw [List.length_take]; simp only [List.map_cons, List.map_nil, List.length_cons, List.length_nil]; omega), Option.bind_some, w64_ix (by omega)]
   have e : s.take i ++ toB [(s[i].toNat : Int)] = s.take (i + 1) := by
    rw [List.take_succ_eq_append_getElem h1]
    congr 1
    show [UInt8.ofNat ((s[i].toNat : Int)).toNat] = _
    rw [Int.toNat_natCast]
    simp
   rw [e]
   exact ih (i + 1) (by omega) (by omega)
  ·rw [ge_dec (by omega), cond_false, List.take_of_length_le (by omega)]
theorem clean_id (s : Str) (hs : s.length ≤ 250) (hc : ∀ b ∈ s, clB b = true) : r01_Clean 300 s = some (s, 0) := by
 unfold r01_Clean r01_Cleaned
 have h : r01_Cleaned_L1 300 s 300 [] 0 = some s := cleaned_id 300 s (by omega) hc 300 0 (by omega) (Nat.zero_le _)
 rw [decide_eq_false (by unfold ln; omega), cond_false, h]
 rfl
theorem has_no (s : Str) (hs : s.length ≤ 1000) (i : Nat) (hi : i ≤ s.length) (c : UInt8) (x : Str) (hx : x.length ≤ 10) (h : tst (isb c.toNat) s i = false) : r02_has s (i : Int) (c :: x) = some false := by
 unfold r02_has
 have w1 : w64 (ln s - (i : Int)) = ((s.length - i : Nat) : Int) := by unfold ln; rw [w64_id (by omega) (by omega)]; omega
 have lx : ln (c :: x) = ((x.length + 1 : Nat) : Int) := by unfold ln; rfl
 have w2 : w64 ((i : Int) + ln (c :: x)) = ((i + (x.length + 1) : Nat) : Int) := by rw [lx, w64_id (by omega) (by omega)]; omega
 rw [w1, w2, lx]
 by_cases hq : x.length + 1 ≤ s.length - i
 ·rw [decide_eq_true (by omega), chk_pos (fun _ => ⟨by omega, by omega, by unfold ln; omega⟩), cond_true, lt_eq]
  have hi2 : i < s.length := by omega
  have e : (sub s (i : Int) ((i + (x.length + 1) : Nat) : Int) == c :: x) = false := by
   refine beq_eq_false_iff_ne.2 fun he => ?_
   unfold sub at he
   have h0 : ((s.drop ((i : Int)).toNat).take ((((i + (x.length + 1) : Nat) : Int)).toNat - ((i : Int)).toNat))[0]? = (c :: x)[0]? := by rw [← he]
   rw [Int.toNat_natCast, Int.toNat_natCast, List.getElem?_take_of_lt (by omega), List.getElem?_drop, Nat.add_zero, List.getElem?_eq_getElem hi2] at h0
   have h1 : s[i] = c := by simpa using h0
   rw [tst_at hi2, h1] at h
   unfold isb at h
   simp at h
  rw [e]
 ·rw [decide_eq_false (by omega), chk_pos (fun h => by cases h), cond_false, lt_eq]
theorem past_id (s : Str) (hs : s.length ≤ 1000) (i : Nat) (hi : i ≤ s.length) (h : tst (isb 47) s i = false) : r02_Past 300 s (i : Int) = some (i : Int) := by
 unfold r02_Past
 rw [r02_Past_L1, has_no s hs i hi 47 [42] (by decide) h]
 rfl
theorem named_L1 (m : Nat) (s W R : Str) (hs : s.length ≤ 1000) (a : Nat) (ha : a ≤ s.length) (hd : s.drop a = W ++ R) (hw : ∀ b ∈ W, let1 b = true) (h1 : tst let1 s (a + W.length) = false) (h2 : esc s (a + W.length) = false) :
  ∀ (kk i : Nat), W.length - i < kk → i ≤ W.length → r02_Named_L1 m s kk ((a + i : Nat) : Int) (W.take i) = some (W, ((a + W.length : Nat) : Int)) := by
 have hl := drop_le ha hd
 intro kk
 induction kk with
 | zero => intro i h; omega
 | succ kk ih =>
  intro i h hi
  rw [r02_Named_L1]
  by_cases hx : i < W.length
  ·have hlt : a + i < s.length := by omega
   have hg : s[a + i] = W[i] := by
    have e : (s.drop a)[i]? = (W ++ R)[i]? := by rw [hd]
    rw [List.getElem?_drop, List.getElem?_append_left hx, List.getElem?_eq_getElem hlt, List.getElem?_eq_getElem hx] at e
    exact Option.some.inj e
   rw [lt_dec hlt, chk_pos (fun _ => ⟨by omega, by unfold ln; omega⟩), cond_true, lt_eq, bat_nat s _ hlt, hg, show r02_Letter (W[i].toNat : Int) = true from hw _ (List.getElem_mem hx), cond_true, w64_ix (by omega), chk_pos ⟨by omega, by omega, by unfold ln; omega⟩, sub_byte hlt, chk_pos (by unfold ln; rw [List.length_take]; simp only [List.length_cons, List.length_nil]; omega), hg]
   have e : W.take i ++ [W[i]] = W.take (i + 1) := (List.take_succ_eq_append_getElem hx).symm
   rw [e]
   exact ih (i + 1) (by omega) (by omega)
  ·have hi2 : i = W.length := by omega
   subst hi2
   rw [List.take_length]
   by_cases hlt : a + W.length < s.length
   ·rw [lt_dec hlt, chk_pos (fun _ => ⟨by omega, by unfold ln; omega⟩), cond_true, lt_eq, bat_pk s _ 0 hlt, letter_r, h1, cond_false, cond_true, esc_r s _ (by omega), h2, Option.bind_some]
    rfl
   ·rw [ge_dec (by omega), chk_pos (fun h => by cases h), cond_false, lt_eq]
    rfl
theorem named_run (s W R : Str) (hs : s.length ≤ 250) (a : Nat) (ha : a ≤ s.length) (hd : s.drop a = W ++ R) (hw : ∀ b ∈ W, let1 b = true) (h1 : tst let1 s (a + W.length) = false) (h2 : esc s (a + W.length) = false) :
  r02_Named 300 s (a : Int) = some (W, ((a + W.length : Nat) : Int)) := by
 have hl := drop_le ha hd
 exact named_L1 300 s W R (by omega) a ha hd hw h1 h2 300 0 (by omega) (Nat.zero_le _)
end Go.Proofs.YtemchjneoalnoaaGreatDoor

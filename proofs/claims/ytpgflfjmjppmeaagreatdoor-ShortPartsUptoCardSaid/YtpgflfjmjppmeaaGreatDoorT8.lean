/-
 The longhands of a shorthand, where a name stands among them, and the parts of margin: both readers. No program in sight.
-/
import Derived.Test.YtpgflfjmjppmeaaGreatDoorT7
set_option linter.unusedVariables false
set_option maxRecDepth 100000
namespace Go.Proofs.YtpgflfjmjppmeaaGreatDoor
open Go Go.V Go.RowKit
def los (w : Str) : List Str := cond (w == mrg) sides (cond (isShort w) [w ++ [45, 99, 111, 108, 111, 114]] [])
theorem of_p (w : Str) (hw : w.length ≤ 1048576) : short_of 64 w = some (los w) := by
 unfold short_of los
 rw [lt_eq, cont_s short_Names w (by decide), Option.bind_some]
 rw [show (scanO (fun i => w == gi short_Names i) short_Names.length 0).isSome = cond (w == mrg) true (isShort w) from scan4 _ _ _ _ w]
 cases hm : (w == mrg)
 ·rw [cond_false, cond_false, lt_eq]
  cases hs : isShort w
  ·rfl
  ·rw [Bool.not_true, cond_false, show (!(w == ([109, 97, 114, 103, 105, 110] : Str))) = true from by rw [show (w == ([109, 97, 114, 103, 105, 110] : Str)) = false from hm]; rfl, cond_true, chk_pos (by unfold ln; simp only [List.length_cons, List.length_nil]; omega)]
   rfl
 ·have e : w = mrg := eq_of_beq hm
  subst e
  rw [show short_of_L1 64 mrg 64 [] 0 = some sides from by kernel_rfl]
  rfl
theorem of_r (w : Str) (hw : w.length ≤ 1048576) : r27_longs w = some (los w) := by
 unfold r27_longs los
 rw [show (w == ([109, 97, 114, 103, 105, 110] : Str)) = (w == mrg) from rfl]
 cases hm : (w == mrg)
 ·simp only [lt_eq, cond_false]
  have e : (cond (w == ([98, 111, 114, 100, 101, 114] : Str)) (some (w == ([98, 111, 114, 100, 101, 114] : Str))) (cond (w == ([111, 117, 116, 108, 105, 110, 101] : Str)) (some (w == ([111, 117, 116, 108, 105, 110, 101] : Str))) (some (w == ([98, 97, 99, 107, 103, 114, 111, 117, 110, 100] : Str))))) = some (isShort w) := by
   unfold isShort
   cases (w == ([98, 111, 114, 100, 101, 114] : Str)) <;> cases (w == ([111, 117, 116, 108, 105, 110, 101] : Str)) <;> rfl
  rw [e, Option.bind_some]
  cases hs : isShort w
  ·rfl
  ·rw [cond_true, chk_pos (by unfold ln; simp only [List.length_cons, List.length_nil]; omega)]
   rfl
 ·rfl
theorem ix_no_p (y : List Str) (long : Str) (hy : y.length ≤ 10) (h : ∀ x ∈ y, (long == x) = false) : slices_Index_string_string FU y long = some (-1) := by
 have st : ∀ (kk i : Nat), y.length - i < kk → i ≤ y.length → slices_Index_string_string_L1 FU y long kk (i : Int) = some (.inr ()) := by
  intro kk
  induction kk with
  | zero => intro i h; omega
  | succ kk ih =>
   intro i hk hi
   rw [slices_Index_string_string_L1]
   by_cases h1 : i < y.length
   ·rw [lt_dec h1, cond_true, chk_ix h1, h _ (gi_mem' h1), cond_false, w64_ix (by omega)]
    exact ih (i + 1) (by omega) (by omega)
   ·rw [ge_dec (by omega), cond_false]
 unfold slices_Index_string_string
 rw [show slices_Index_string_string_L1 FU y long FU 0 = _ from st FU 0 (by unfold FU; omega) (Nat.zero_le _)]
 rfl
theorem ix_no_r (y : List Str) (long : Str) (hy : y.length ≤ 10) (h : ∀ x ∈ y, (long == x) = false) : r27_Part_L1 FU long y FU (-1) 0 = some (-1) := by
 have st : ∀ (kk i : Nat), y.length - i < kk → i ≤ y.length → r27_Part_L1 FU long y kk (-1) (i : Int) = some (-1) := by
  intro kk
  induction kk with
  | zero => intro i h; omega
  | succ kk ih =>
   intro i hk hi
   rw [r27_Part_L1]
   by_cases h1 : i < y.length
   ·have hh := h _ (gi_mem' h1)
    rw [beqc] at hh
    rw [lt_dec h1, cond_true, chk_ix h1, hh, cond_false, Option.bind_some, w64_ix (by omega)]
    exact ih (i + 1) (by omega) (by omega)
   ·rw [ge_dec (by omega), cond_false]
 exact st FU 0 (by unfold FU; omega) (Nat.zero_le _)
theorem ix_one (a long : Str) : ∃ i : Int, slices_Index_string_string FU [a] long = some i ∧ r27_Part_L1 FU long [a] FU (-1) 0 = some i ∧ (i = -1 ∨ i = 0) := by
 cases h : (long == a)
 ·exact ⟨-1, ix_no_p [a] long (by simp) (fun x hx => by rw [List.mem_singleton.1 hx]; exact h), ix_no_r [a] long (by simp) (fun x hx => by rw [List.mem_singleton.1 hx]; exact h), Or.inl rfl⟩
 ·have e := eq_of_beq h
  subst e
  refine ⟨0, ?_, ?_, Or.inr rfl⟩
  ·unfold slices_Index_string_string
   have e1 : slices_Index_string_string_L1 FU [long] long (1099999 + 1) ((0 : Nat) : Int) = some (.inl 0) := by
    rw [slices_Index_string_string_L1, lt_dec (by simp), cond_true, chk_ix (by simp), show gi [long] ((0 : Nat) : Int) = long from rfl, beq_self_eq_true]
    rfl
   rw [show slices_Index_string_string_L1 FU [long] long FU 0 = _ from e1]
   rfl
  ·have e1 : r27_Part_L1 FU long [long] (1099998 + 1 + 1) (-1) ((0 : Nat) : Int) = some 0 := by
    rw [r27_Part_L1, lt_dec (by simp), cond_true, chk_ix (by simp), show gi [long] ((0 : Nat) : Int) = long from rfl, beq_self_eq_true, cond_true, Option.bind_some, w64_ix (by omega), r27_Part_L1, ge_dec (by simp), cond_false]
    rfl
   exact e1
theorem ix_both (w long : Str) : ∃ i : Int, slices_Index_string_string FU (los w) long = some i ∧ r27_Part_L1 FU long (los w) FU (-1) 0 = some i ∧ (i = -1 ∨ (0 ≤ i ∧ i < ln (los w))) := by
 unfold los
 cases (w == mrg)
 ·rw [cond_false]
  cases (isShort w)
  ·exact ⟨-1, ix_no_p [] long (by decide) (fun x hx => by cases hx), ix_no_r [] long (by decide) (fun x hx => by cases hx), Or.inl rfl⟩
  ·obtain ⟨i, h1, h2, h3⟩ := ix_one (w ++ [45, 99, 111, 108, 111, 114]) long
   refine ⟨i, h1, h2, ?_⟩
   rcases h3 with h | h
   ·exact Or.inl h
   ·subst h
    exact Or.inr ⟨by decide, (show (0 : Int) < ((1 : Nat) : Int) from by decide)⟩
 ·rw [cond_true]
  by_cases h0 : long ∈ sides
  ·unfold sides at h0
   simp only [List.mem_cons, List.not_mem_nil, or_false] at h0
   rcases h0 with h | h | h | h <;> subst h
   ·exact ⟨0, by kernel_rfl, by kernel_rfl, Or.inr ⟨by decide, by decide⟩⟩
   ·exact ⟨1, by kernel_rfl, by kernel_rfl, Or.inr ⟨by decide, by decide⟩⟩
   ·exact ⟨2, by kernel_rfl, by kernel_rfl, Or.inr ⟨by decide, by decide⟩⟩
   ·exact ⟨3, by kernel_rfl, by kernel_rfl, Or.inr ⟨by decide, by decide⟩⟩
  ·have hn : ∀ x ∈ sides, (long == x) = false := fun x hx => beq_eq_false_iff_ne.2 fun e => h0 (by rw [e]; exact hx)
   exact ⟨-1, ix_no_p sides long (by decide) hn, ix_no_r sides long (by decide) hn, Or.inl rfl⟩
def isS (l : List TValue) (i : Nat) : Bool := (gi l (i : Int)).Token.Kind == 13
def gl (l : List TValue) : Nat → Nat → List (List TValue) → Option (List (List TValue))
 | 0, _, v => some v
 | k + 1, i, v => cond (isS l i) (gl l k (i + 1) v) (cond (cond (decide (0 < i)) (!(isS l (i - 1))) false) none (gl l k (i + 1) (v ++ [[gi l (i : Int)]])))
theorem sub1 {l : List TValue} {i : Nat} (h : i < l.length) : subl l (i : Int) ((i + 1 : Nat) : Int) = [gi l (i : Int)] := by
 rw [gi_nat l i h]
 unfold subl
 simp only [Int.toNat_natCast]
 rw [List.drop_eq_getElem_cons h, show i + 1 - i = 1 from by omega]
 rfl
theorem gl_p (l : List TValue) (hl : l.length ≤ 1048576) : ∀ (kk i k : Nat) (v : List (List TValue)), i + k = l.length → k < kk → v.length ≤ i →
  short_sides_L1 FU l kk v (i : Int) = match gl l k i v with
   | none => some (.inl [])
   | some q => some (.inr q) := by
 intro kk
 induction kk with
 | zero => intro i k v _ h; omega
 | succ kk ih =>
  intro i k v hik hk hv
  rw [short_sides_L1]
  cases k with
  | zero => rw [ge_dec (by omega), cond_false]; rfl
  | succ k =>
   have h1 : i < l.length := by omega
   rw [lt_dec h1, cond_true, chk_ix h1, gl]
   show Option.bind (cond (isS l i) _ _) _ = _
   cases hs : isS l i
   ·rw [cond_false, cond_false]
    have hprev : (cond (decide (0 < (i : Int))) (((gi l (w64 ((i : Int) - 1))).Token.Kind) != 13) false) = cond (decide (0 < i)) (!(isS l (i - 1))) false := by
     by_cases h0 : 0 < i
     ·rw [decide_eq_true h0, decide_eq_true (show (0 : Int) < (i : Int) by omega), cond_true, cond_true, show w64 ((i : Int) - 1) = ((i - 1 : Nat) : Int) from by rw [w64_id (by omega) (by omega)]; omega]
      rfl
     ·rw [decide_eq_false h0, decide_eq_false (show ¬ (0 : Int) < (i : Int) by omega)]; rfl
    rw [chk_pos (fun h => by
     have h0 : (0 : Int) < (i : Int) := by simpa using h
     rw [show w64 ((i : Int) - 1) = ((i - 1 : Nat) : Int) from by rw [w64_id (by omega) (by omega)]; omega]
     exact ⟨by omega, by unfold ln; omega⟩), lt_eq, hprev]
    cases (cond (decide (0 < i)) (!(isS l (i - 1))) false)
    ·rw [cond_false, cond_false, w64_ix (by omega), chk_pos ⟨by omega, by omega, by unfold ln; omega⟩, lt_eq, sub1 h1, chk_pos (by unfold ln; simp only [List.length_cons, List.length_nil]; omega), lt_eq, Option.bind_some]
     dsimp only [sumK]
     exact ih (i + 1) k _ (by omega) (by omega) (by simp only [List.length_append, List.length_cons, List.length_nil]; omega)
    ·rfl
   ·rw [cond_true, cond_true, Option.bind_some]
    dsimp only [sumK]
    rw [w64_ix (by omega)]
    exact ih (i + 1) k v (by omega) (by omega) (by omega)
theorem gl_r (l : List TValue) (hl : l.length ≤ 1048576) (h0 : 0 < l.length) (hf : isS l 0 = false) : ∀ (kk i k : Nat) (v : List (List TValue)) (b : Bool), i + k = l.length → k < kk → v.length ≤ i → b = cond (decide (0 < i)) (isS l (i - 1)) true →
  r27_parts_L1 FU l kk v b (i : Int) = match gl l k i v with
   | none => some (.inl [])
   | some q => some (.inr (q, isS l (l.length - 1))) := by
 intro kk
 induction kk with
 | zero => intro i k v b _ h; omega
 | succ kk ih =>
  intro i k v b hik hk hv hb
  rw [r27_parts_L1]
  cases k with
  | zero =>
   have hi : i = l.length := by omega
   rw [ge_dec (by omega), cond_false, gl]
   rw [hb, decide_eq_true (by omega), cond_true, hi]
  | succ k =>
   have h1 : i < l.length := by omega
   have hnext : isS l i = cond (decide (0 < i + 1)) (isS l (i + 1 - 1)) true := by rw [decide_eq_true (by omega), cond_true]; rfl
   rw [lt_dec h1, cond_true, chk_ix h1, gl, lt_eq, lt_eq, hb]
   show cond (cond (cond (!(isS l i)) (!(cond (decide (0 < i)) (isS l (i - 1)) true)) false) true (cond (isS l i) ((i : Int) == 0) false)) _ (Option.bind (cond (!(isS l i)) _ _) fun z27 => r27_parts_L1 FU l kk z27 (isS l i) _) = _
   cases hs : isS l i
   ·simp only [Bool.not_false, cond_true, cond_false]
    have e : (!(cond (decide (0 < i)) (isS l (i - 1)) true)) = cond (decide (0 < i)) (!(isS l (i - 1))) false := by
     cases decide (0 < i) <;> rfl
    rw [e]
    cases (cond (decide (0 < i)) (!(isS l (i - 1))) false)
    ·simp only [cond_false]
     rw [w64_ix (by omega), chk_pos ⟨by omega, by omega, by unfold ln; omega⟩, lt_eq, sub1 h1, chk_pos (by unfold ln; simp only [List.length_cons, List.length_nil]; omega), lt_eq, Option.bind_some]
     exact ih (i + 1) k _ false (by omega) (by omega) (by simp only [List.length_append, List.length_cons, List.length_nil]; omega) (by rw [← hs]; exact hnext)
    ·rfl
   ·have hi0 : ((i : Int) == 0) = false := by
     refine beq_eq_false_iff_ne.2 fun e => ?_
     have : i = 0 := by omega
     subst this
     rw [hf] at hs; cases hs
    simp only [Bool.not_true, cond_true, cond_false, hi0]
    rw [Option.bind_some, w64_ix (by omega)]
    exact ih (i + 1) k v true (by omega) (by omega) (by omega) (by rw [← hs]; exact hnext)
end Go.Proofs.YtpgflfjmjppmeaaGreatDoor

/-
  Plain lemmas on the models' words: wraps, bytes, rows; no program in sight.
-/
import Derived.Test.YtihckkbhieblkaaV
namespace Go.V
open Go

theorem w64_id {x : Int} (h : -9223372036854775808 ≤ x) (h' : x < 9223372036854775808) : w64 x = x := by
  show IntKind.i64.wrap x = x
  unfold IntKind.wrap
  simp only [IntKind.bits, IntKind.signed, Bool.true_and]
  split <;> rename_i hh <;> simp only [ge_iff_le, decide_eq_true_eq] at hh <;> omega

theorem ln_nn {α : Type} (l : List α) : 0 ≤ ln l := by unfold ln; omega
theorem ln_ofB (s : Str) : ln (ofB s) = ln s := by simp [ln, ofB]
theorem gi_nat {α : Type} [Inhabited α] (l : List α) (i : Nat) (h : i < l.length) : gi l (i : Int) = l[i] := by
  simp [gi, List.getD_eq_getElem?_getD, List.getElem?_eq_getElem h]
theorem bat_nat (s : Str) (i : Nat) (h : i < s.length) : bat s (i : Int) = (s[i].toNat : Int) := by
  simp [bat, List.getD_eq_getElem?_getD, List.getElem?_eq_getElem h]
theorem seti_nat (l : List Int) (i : Nat) (v : Int) : seti l (i : Int) v = l.set i v := by simp [seti]

theorem take_set_drop {α : Type} (q : List α) (i : Nat) (v : α) (f : α → α) (h : i < q.length) :
    (q.set i v).take (i + 1) ++ ((q.set i v).drop (i + 1)).map f = q.take i ++ v :: (q.drop (i + 1)).map f := by
  rw [List.drop_set_of_lt (by omega)]
  rw [List.take_succ_eq_append_getElem (by simpa using h), List.take_set_of_le (by omega)]
  simp
end Go.V

/-
 Plain lemmas on the models' words: wraps, bytes, rows; no program in sight.
-/
import Derived.Test.YtehlikdeobajcaaGreatDoorV
import Derived.Lib.Mul64
namespace Go.V
open Go
theorem w64_id {x : Int} (h : -9223372036854775808 ≤ x) (h' : x < 9223372036854775808) : w64 x = x := by
 show IntKind.i64.wrap x = x
 unfold IntKind.wrap
 simp only [IntKind.bits, IntKind.signed, Bool.true_and]
 split <;> rename_i hh <;> simp only [ge_iff_le, decide_eq_true_eq] at hh <;> omega
theorem gi_nat {α : Type} [Inhabited α] (l : List α) (i : Nat) (h : i < l.length) : gi l (i : Int) = l[i] := by
 simp [gi, List.getD_eq_getElem?_getD, List.getElem?_eq_getElem h]
theorem wu64_mod (x : Int) : wu64 x = x % 18446744073709551616 := by
 show IntKind.u64.wrap x = _
 simp [IntKind.wrap, IntKind.bits, IntKind.signed]
theorem wu64_id {x : Int} (h : 0 ≤ x) (h' : x < 18446744073709551616) : wu64 x = x := by rw [wu64_mod]; exact Int.emod_eq_of_lt h h'
theorem lt_dec {α : Type} {l : List α} {i : Nat} (h : i < l.length) : decide ((i : Int) < ln l) = true := by simp [ln, h]
theorem ge_dec {α : Type} {l : List α} {i : Nat} (h : l.length ≤ i) : decide ((i : Int) < ln l) = false := by simp [ln]; omega
theorem chk_ix {α β : Type} {l : List α} {i : Nat} {k : Option β} (h : i < l.length) : chk (0 ≤ (i : Int) ∧ (i : Int) < ln l) k = k := by
 unfold chk
 rw [if_pos ⟨by omega, by unfold ln; omega⟩]
theorem chk_pos {β : Type} {p : Prop} [Decidable p] {k : Option β} (h : p) : chk p k = k := by unfold chk; rw [if_pos h]
theorem w64_ix {i : Nat} (h : i < 4611686018427387904) : w64 ((i : Int) + 1) = ((i + 1 : Nat) : Int) := by rw [w64_id (by omega) (by omega)]; rfl
theorem lt_eq {α β : Type} (e : α) (f : α → β) : lt e f = f e := rfl
end Go.V

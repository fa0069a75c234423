/-
  Plain lemmas on the models' words: wraps, bytes, rows; no program in sight.
-/
import Derived.Test.YtfcnkhiohnjepaaDoorV
import Derived.Lib.Mul64
namespace Go.V
open Go

theorem w64_id {x : Int} (h : -9223372036854775808 ≤ x) (h' : x < 9223372036854775808) : w64 x = x := by
  show IntKind.i64.wrap x = x
  unfold IntKind.wrap
  simp only [IntKind.bits, IntKind.signed, Bool.true_and]
  split <;> rename_i hh <;> simp only [ge_iff_le, decide_eq_true_eq] at hh <;> omega






/-! loops by an index -/
theorem chk_pos {β : Type} {p : Prop} [Decidable p] {k : Option β} (h : p) : chk p k = k := by unfold chk; rw [if_pos h]
theorem w64_ix {i : Nat} (h : i < 4611686018427387904) : w64 ((i : Int) + 1) = ((i + 1 : Nat) : Int) := by rw [w64_id (by omega) (by omega)]; rfl
theorem lt_eq {α β : Type} (e : α) (f : α → β) : lt e f = f e := rfl

end Go.V

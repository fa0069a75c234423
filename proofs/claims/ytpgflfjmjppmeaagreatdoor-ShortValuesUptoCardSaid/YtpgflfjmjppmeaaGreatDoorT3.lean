/-
 Declarations: their errors, their ranks, and whether they are in order: both readers see the same. No program in sight.
-/
import Derived.Test.YtpgflfjmjppmeaaGreatDoorT2
set_option linter.unusedVariables false
set_option maxRecDepth 100000
namespace Go.Proofs.YtpgflfjmjppmeaaGreatDoor
open Go Go.V Go.RowKit
abbrev FU : Nat := 1100000
theorem fu_lt : 1048577 < FU := by decide
def mrg : Str := [109, 97, 114, 103, 105, 110]
def isShort (w : Str) : Bool := cond (w == [98, 111, 114, 100, 101, 114]) true (cond (w == [111, 117, 116, 108, 105, 110, 101]) true (w == [98, 97, 99, 107, 103, 114, 111, 117, 110, 100]))
def sides : List Str := [[109, 97, 114, 103, 105, 110, 45, 116, 111, 112], [109, 97, 114, 103, 105, 110, 45, 114, 105, 103, 104, 116], [109, 97, 114, 103, 105, 110, 45, 98, 111, 116, 116, 111, 109], [109, 97, 114, 103, 105, 110, 45, 108, 101, 102, 116]]
def lgs (w : Str) : List Str × Int := cond (w == mrg) (sides, 0) (cond (isShort w) ([w ++ [45, 99, 111, 108, 111, 114]], 0) (cond ((inh w).2 != 0) ([], 6) ([w], 0)))
theorem inh2 (w : Str) : (inh w).2 = 0 ∨ (inh w).2 = 6 := by
 unfold inh
 cases cst w
 ·rw [cond_false]
  unfold findA
  cases find w with
  | none => exact Or.inr rfl
  | some r => exact Or.inl rfl
 ·exact Or.inl rfl
theorem scan4 (a b c d x : Str) : (scanO (fun i => x == gi [a, b, c, d] i) 4 0).isSome = cond (x == a) true (cond (x == b) true (cond (x == c) true (x == d))) := by
 simp only [scanO]
 rw [show gi [a, b, c, d] ((0 : Nat) : Int) = a from rfl, show gi [a, b, c, d] ((0 + 1 : Nat) : Int) = b from rfl, show gi [a, b, c, d] ((0 + 1 + 1 : Nat) : Int) = c from rfl, show gi [a, b, c, d] ((0 + 1 + 1 + 1 : Nat) : Int) = d from rfl]
 cases (x == a) <;> cases (x == b) <;> cases (x == c) <;> cases (x == d) <;> rfl
theorem longs_p (w : Str) (hw : w.length ≤ 1048576) : short_Longs 64 w = some (lgs w) := by
 unfold short_Longs short_of lgs
 rw [lt_eq, cont_s short_Names w (by decide), Option.bind_some]
 rw [show (scanO (fun i => w == gi short_Names i) short_Names.length 0).isSome = cond (w == mrg) true (isShort w) from scan4 _ _ _ _ w]
 cases hm : (w == mrg)
 ·rw [cond_false, lt_eq]
  cases hs : isShort w
  ·rw [Bool.not_false, cond_true, Option.bind_some, cond_false]
   show Option.bind (props_Inherited 64 w) _ = _
   rw [inh_p, Option.bind_some]
   rcases inh2 w with h | h <;> rw [h] <;> rfl
  ·rw [Bool.not_true, cond_false, show (!(w == ([109, 97, 114, 103, 105, 110] : Str))) = true from by rw [show (w == ([109, 97, 114, 103, 105, 110] : Str)) = false from hm]; rfl, cond_true, chk_pos (by unfold ln; simp only [List.length_cons, List.length_nil]; omega), Option.bind_some]
   rfl
 ·have e : w = mrg := eq_of_beq hm
  subst e
  rw [show short_of_L1 64 mrg 64 [] 0 = some sides from by kernel_rfl]
  rfl
theorem lgs_len (w : Str) : (lgs w).1.length ≤ 4 := by
 unfold lgs
 cases (w == mrg) <;> cases isShort w <;> cases ((inh w).2 != 0) <;> exact Nat.le_of_ble_eq_true rfl
end Go.Proofs.YtpgflfjmjppmeaaGreatDoor

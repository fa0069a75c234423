/-
 strconv.FormatInt at base 10 by the shelf's contract. Nothing here is a statement of this claim.
-/
import Derived.Test.YtemchjneoalnoaaGreatDoorI
set_option linter.unusedVariables false
namespace Go.Proofs.YtemchjneoalnoaaGreatDoor
open Go Go.V Go.RowKit
def x_FormatInt10 (n : Int) : Option Str := chk (-9223372036854775808 ≤ n ∧ n ≤ 9223372036854775807) (some (itoaS n))
theorem x_FormatInt10_ok (n : Int) (r : Str) (hm : x_FormatInt10 n = some r) (w : World) (hL : S0 F0 [Ent.tab 0 (Lib.pow10Tab.map fun z => Value.int .u64 z)] w ∧ fpl [Ent.tab 0 (Lib.pow10Tab.map fun z => Value.int .u64 z)] = []) :
  RetB Tryz.prog 30 ⟨[.int .i64 n, .int .i64 10]⟩ (.string ⟨⟨r⟩⟩) w := by
 obtain ⟨h, hm⟩ := chkE hm
 obtain rfl := someE hm
 refine retB_of (L := [Ent.tab 0 (Lib.pow10Tab.map fun z => Value.int .u64 z)]) hL (Tryz.call30 _) fun w' hS => ?_
 rw [itoaS_eq h]
 refine (Tryz.strconv_FormatInt_10 n h.1 h.2 w' (pow10_tab (hS.at 0 rfl))).mono ?_
 rintro e w2 ⟨rfl, k, os, rfl⟩
 refine ⟨_, rfl, rfl, ?_⟩
 exact SH.gone hS (kp_grow w' k os _)
end Go.Proofs.YtemchjneoalnoaaGreatDoor

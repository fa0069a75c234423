/-
 What the shelf's contracts want: bytes that are ASCII.
-/
import Derived.Test.YtpobihiejncdgaaGreatDoorSh
import Derived.Test.YtpobihiejncdgaaGreatDoorA1
import Derived.Shelf.Strings.SlTrimAscii
import Derived.Shelf.Strings.IndexAnyAll
namespace Go.V
def yW(s:J):Bool:=s.all λb=>decide (b.toNat<128)
theorem L7{s:J}(h:yW s=true):∀(j:Nat) b,s[j]?=some b→b.toNat<128:=λ_ b hj=>
 of_decide_eq_true (List.all_eq_true.1 h b (List.mem_of_getElem? hj))
end Go.V

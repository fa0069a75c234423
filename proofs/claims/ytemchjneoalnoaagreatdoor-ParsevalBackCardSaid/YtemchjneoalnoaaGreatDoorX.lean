/-
 What the shelf's contracts want: bytes that are ASCII.
-/
import Derived.Test.YtemchjneoalnoaaGreatDoorSh
import Derived.Test.YtemchjneoalnoaaGreatDoorS
import Derived.Shelf.Strings.SlTrimAscii
import Derived.Shelf.Strings.IndexAnyAll
namespace Go.V
def ascB (s : Str) : Bool := s.all fun b => decide (b.toNat < 128)
theorem ascB_get {s : Str} (h : ascB s = true) : ∀ (j : Nat) b, s[j]? = some b → b.toNat < 128 := fun _ b hj =>
 of_decide_eq_true (List.all_eq_true.1 h b (List.mem_of_getElem? hj))
end Go.V

/-
 What the shelf's contracts want: bytes that are ASCII.
-/
import Derived.Test.YtemchjneoalnoaaGreatDoorSh
import Derived.Test.YtemchjneoalnoaaGreatDoorS
import Derived.Shelf.Strings.SlTrimAscii
import Derived.Shelf.Strings.IndexAnyAll
namespace Go.V
def ascB (s : Str) : Bool := s.all fun b => decide (b.toNat < 128)
end Go.V

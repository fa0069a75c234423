/-
 What the shelf's contracts want: bytes that are ASCII.
-/
import Derived.Test.YtdkddffedangnaaGreatDoorSh
import Derived.Test.YtdkddffedangnaaGreatDoorQ1
import Derived.Shelf.Strings.SlTrimAscii
import Derived.Shelf.Strings.IndexAnyAll
namespace Go.V
end Go.V

/-
 What the shelf's contracts want: bytes that are ASCII.
-/
import Derived.Test.YtpgflfjmjppmeaaGreatDoorSh
import Derived.Test.YtpgflfjmjppmeaaGreatDoorS
import Derived.Shelf.Strings.SlTrimAscii
import Derived.Shelf.Strings.IndexAnyAll
namespace Go.V
end Go.V

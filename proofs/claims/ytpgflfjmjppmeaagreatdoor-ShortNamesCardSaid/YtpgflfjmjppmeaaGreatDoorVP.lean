/-
 Plain lemmas on the models' words: wraps, bytes, rows; no program in sight.
-/
import Derived.Test.YtpgflfjmjppmeaaGreatDoorV
import Derived.Lib.Mul64
namespace Go.V
open Go
end Go.V

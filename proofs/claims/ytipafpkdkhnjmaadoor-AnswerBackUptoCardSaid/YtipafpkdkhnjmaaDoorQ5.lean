/-
  Answers as text: the reference's reader. No program in sight.
-/
import Derived.Test.YtipafpkdkhnjmaaDoorQ4
set_option linter.unusedVariables false
set_option maxRecDepth 100000
namespace Go.Proofs.YtipafpkdkhnjmaaDoor
open Go Go.V Go.RowKit
/-! ## Numbers -/
/-! ## Texts in quotes -/
end Go.Proofs.YtipafpkdkhnjmaaDoor

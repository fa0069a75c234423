/-
  What the walks compute answers as the laws say: fixed numbers, read and written.
-/
import Derived.Test.YtbealjlgbfpadaaDoorW06b
import Derived.KernelRfl
namespace Go.Proofs.YtbealjlgbfpadaaDoor
open Go Go.V
set_option maxRecDepth 100000
theorem plain_FixedNames : law06_FixedNames 64 = some true := by kernel_rfl
end Go.Proofs.YtbealjlgbfpadaaDoor

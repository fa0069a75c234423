/-
  The closed law of layer 31, in plain words.
-/
import Derived.Test.YtehlikdeobajcaaDoorW31d
import Derived.KernelRfl
namespace Go.Proofs.YtehlikdeobajcaaDoor
open Go Go.V
set_option maxRecDepth 100000
theorem plain_WideNames : law31_WideNames 64 = some true := by kernel_rfl
end Go.Proofs.YtehlikdeobajcaaDoor

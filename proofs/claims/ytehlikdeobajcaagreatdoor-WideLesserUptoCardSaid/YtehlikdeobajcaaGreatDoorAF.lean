/-
 'append' onto a slice that is read and has no room: a new row. A thing of the call's own that is lent. Nothing here is a statement of this claim.
-/
import Derived.Test.YtehlikdeobajcaaGreatDoorO
import Derived.ArgAppend
namespace Go.V
open Go Go.RowKit
section
variable {P : Program} {a : Act} {w : World} {n : Nat} {l : SF} {M : Av} {D : List Deferred}
end
section
variable {M : Av} {X : List Nat} {w0 w w' : World} {L R : List Ent}
end
section
variable {P : Program} {a : Act} {w : World} {n : Nat} {l : SF} {M : Av} {D : List Deferred}
end
theorem SlG.nl {α : Type} {T : Ty α} {M : Av} {w : World} {l : List α} {g : Gh} (h : SlG T M w l g) (hn : g.a = none) : l = [] := by
 cases l with
 | nil => rfl
 | cons x r =>
  have := h.1.ok (by simp)
  unfold oka at this
  rw [hn] at this
  cases this
end Go.V

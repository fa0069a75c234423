/-
  Tables and error variables beside a range over a function. Nothing here is a statement of this claim.
-/
import Derived.Test.YtipafpkdkhnjmaaGreatDoorRL
import Derived.Test.YtipafpkdkhnjmaaGreatDoorA
import Derived.Test.YtipafpkdkhnjmaaGreatDoorI
namespace Go.V
open Go Go.RowKit
theorem nc_tab (g : Nat) (cs : List Value) : (Ent.tab g cs).Nc := ⟨fun M w h => ⟨h.1, fun hm => by
  rcases hm with hm | ⟨o, ho, hc⟩
  · exact h.2 hm
  · obtain ⟨T, fr, h1⟩ := h.1
    rw [h1] at ho
    cases ho
    cases hc⟩, fun _ _ _ b hb => by cases hb⟩
theorem nc_gifc (g : Nat) : (Ent.gifc g).Nc := ⟨fun M w h => ⟨h.1, h.2.1, fun hm => by
  rcases hm with hm | hm
  · exact h.2.2 hm
  · obtain ⟨te, pe, hc⟩ := h.1
    exact cell_nc hc hm⟩, fun _ _ _ b hb => by cases hb⟩
end Go.V

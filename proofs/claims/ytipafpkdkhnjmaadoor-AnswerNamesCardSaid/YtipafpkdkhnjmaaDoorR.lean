/-
  What came in, as the walks want it: readings opened. Nothing here is a statement of this claim.
-/
import Derived.Test.YtipafpkdkhnjmaaDoorD
import Derived.DataReads
import Derived.ChangeOld
import Derived.ChangeArms
import Derived.Lib.LaidU8
namespace Go.V
open Go Go.RowKit



section
variable {H : Type} {P : Program} {W : World} {enc : TypeId × Value → H}
end


/-- What a law's walk tells. -/
theorem pure_of {P : Program} {f : FuncId} {args : Array Value} {v : Value} {w : World} {L : List Ent} (hL : S0 F0 L w ∧ fpl L = []) (h : S0 F0 L w → Calls P f args w fun e w'' => ∃ u, e = .returned u ∧ u = v ∧ SH F0 (fpl L) w [] w'') :
    Calls P f args w (Pure v w) := by
  refine (h hL.1).mono ?_
  rintro e w'' ⟨u, rfl, rfl, hS⟩
  refine ⟨rfl, ?_⟩
  have := hS.kp
  rw [hL.2] at this
  exact this.below
end Go.V

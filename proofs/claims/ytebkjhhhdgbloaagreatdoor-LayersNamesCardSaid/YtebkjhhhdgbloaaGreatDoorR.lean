/-
 What came in, as the walks want it: readings opened. Nothing here is a statement of this claim.
-/
import Derived.Test.YtebkjhhhdgbloaaGreatDoorD
import Derived.DataReads
import Derived.ChangeOld
import Derived.ChangeArms
import Derived.Lib.LaidU8
namespace Go.V
open Go Go.RowKit
theorem cell_lt0 {w : World} {a : Addr} {v : Value} (h : w.cell? a = some v) : a.block < w.heap.size := by
 unfold World.cell? at h
 rcases Nat.lt_or_ge a.block w.heap.size with h1 | h1
 ·exact h1
 ·rw [Array.getElem?_eq_none h1] at h
  simp at h
section
variable {H : Type} {P : Program} {W : World} {enc : TypeId × Value → H}
end
theorem tab_reads {P : Program} {W : World} {name : String} {k : IntKind} {zs : List Int} {g : Nat} {t e : TypeId} {n : Nat}
  (hg : P.globalNamed name = some g) (hty : (P.globals[g]?).map (·.type) = some t) (ht : P.underlying t = some (.array n e)) (he : P.underlying e = some (.int k)) (hce : P.cellsOf e = 1) (hct : P.cellsOf t = n)
  (hn : zs.length = n) (h : Lib.VarReads P W name (Lib.tabData k zs)) (hpos : Nat.blt 0 n = true) : SlG (tI k) F0 W zs (Gh.mk (some ⟨g, 0, none⟩) n fun _ _ => .nil) := by
 obtain ⟨g', t', cs, fuel, p, hg', ht', hvar, hd⟩ := h
 obtain rfl := Option.some.inj (hg.symm.trans hg')
 obtain rfl := Option.some.inj (hty.symm.trans ht')
 have htab : Lib.TabIs P W name k zs := by unfold Lib.TabIs; rw [hvar, ← Lib.cells_of_tab ht he hce hct hd]
 have hp : 0 < n := by simpa [Nat.blt, Nat.lt_iff_add_one_le] using hpos
 refine ⟨⟨fun _ => rfl, fun _ => ?_, fun _ h => h.elim, fun i hi j v hv => ?_, Nat.le_of_eq hn⟩, fun i hi => trivial⟩
 ·exact cell_lt0 (htab.cell hg 0 (by omega))
 ·have hj : j = 0 := by
   rcases j with _ | j
   ·rfl
   ·simp [tI, Ty.flat] at hv
  subst hj
  have h1 : v = .int k zs[i] := by simpa [tI, Ty.flat] using hv.symm
  subst h1
  have := htab.cell hg i hi
  have h2 : zs.getD i 0 = zs[i] := by simp [List.getD, List.getElem?_eq_getElem hi]
  rw [h2] at this
  have h3 : i * (tI k).z = i := Nat.mul_one i
  show W.cell? ⟨g, 0 + i * (tI k).z + 0, none⟩ = _
  rw [h3, Nat.zero_add]
  exact this
theorem pure_of {P : Program} {f : FuncId} {args : Array Value} {v : Value} {w : World} {L : List Ent} (hL : S0 F0 L w ∧ fpl L = []) (h : S0 F0 L w → Calls P f args w fun e w'' => ∃ u, e = .returned u ∧ u = v ∧ SH F0 (fpl L) w [] w'') :
  Calls P f args w (Pure v w) := by
 refine (h hL.1).mono ?_
 rintro e w'' ⟨u, rfl, rfl, hS⟩
 refine ⟨rfl, ?_⟩
 have := hS.kp
 rw [hL.2] at this
 exact this.below
end Go.V

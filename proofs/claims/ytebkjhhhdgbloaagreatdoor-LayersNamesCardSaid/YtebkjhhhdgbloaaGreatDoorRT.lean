/-
 What listed variables hold, as the walks over strconv want it. Nothing here is a statement of this claim.
-/
import Derived.Test.YtebkjhhhdgbloaaGreatDoorR
import Derived.Test.YtebkjhhhdgbloaaGreatDoorI
set_option linter.unusedVariables false
namespace Go.V
open Go Go.RowKit
theorem var_cells {P : Program} {W : World} {name : String} {g : Nat} {cs : Array Value} (hg : P.globalNamed name = some g) (h : W.var? P name = some cs) : ∃ T fr, W.heap[g]? = some (.cells cs T fr) := by
 unfold World.var? at h
 rw [hg, Option.bind_some] at h
 split at h
 ·rename_i cs' T fr he
  exact ⟨T, fr, by rw [he, Option.some.inj h]⟩
 ·cases h
theorem tabW_reads {P : Program} {W : World} {name : String} {k : IntKind} {zs : List Int} {g : Nat} {t e : TypeId} {n : Nat}
  (hg : P.globalNamed name = some g) (hty : (P.globals[g]?).map (·.type) = some t) (ht : P.underlying t = some (.array n e)) (he : P.underlying e = some (.int k)) (hce : P.cellsOf e = 1) (hct : P.cellsOf t = n)
  (h : Lib.VarReads P W name (Lib.tabData k zs)) : (Ent.tab g (zs.map fun z => Value.int k z)).p F0 W := by
 obtain ⟨g', t', cs, fuel, p, hg', ht', hvar, hd⟩ := h
 obtain rfl := Option.some.inj (hg.symm.trans hg')
 obtain rfl := Option.some.inj (hty.symm.trans ht')
 have hc := Lib.cells_of_tab ht he hce hct hd
 obtain ⟨T, fr, hh⟩ := var_cells hg hvar
 refine ⟨⟨T, fr, ?_⟩, fun h => h⟩
 obtain ⟨l⟩ := cs
 have hc : l = zs.map fun z => Value.int k z := hc
 rw [hh, hc]
end Go.V

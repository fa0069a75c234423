/-
 What came in, as the walks want it: readings opened. Nothing here is a statement of this claim.
-/
import Derived.Test.YtehlikdeobajcaaGreatDoorD
import Derived.DataReads
import Derived.ChangeOld
import Derived.ChangeArms
import Derived.Lib.LaidU8
namespace Go.V
open Go Go.RowKit
def Opn {H : Type} (P : Program) (W : World) (enc : TypeId × Value → H) (t : TypeId) {α : Type} (T : Ty α) (wf : α → Prop) : Prop :=
 ∀ (n : Nat) (cs : List Value) x, DataW.trod enc P W 0 (fun _ => true) true n t cs = some x → ∃ (v : α) (g : Nat → Gh), cs = T.enc v g ∧ T.inn F0 W v g ∧ wf v
theorem cell_lt0 {w : World} {a : Addr} {v : Value} (h : w.cell? a = some v) : a.block < w.heap.size := by
 unfold World.cell? at h
 rcases Nat.lt_or_ge a.block w.heap.size with h1 | h1
 ·exact h1
 ·rw [Array.getElem?_eq_none h1] at h
  simp at h
theorem Addr.add_off0 (b o i : Nat) : (⟨b, o, none⟩ : Addr).add i = ⟨b, o + i, none⟩ := by
 unfold Addr.add
 split
 ·rename_i h
  subst h
  rfl
 ·rfl
theorem choose_list {α : Type} {B : Type} [Nonempty B] : ∀ {n : Nat} (p : Nat → α → B → Prop), (∀ i, i < n → ∃ v b, p i v b) → ∃ (l : List α) (s : Nat → B), ∃ (hl : l.length = n), ∀ i (h : i < n), p i (l[i]'(by omega)) (s i) := by
 intro n p h
 classical
 rcases Nat.eq_zero_or_pos n with rfl | h0
 ·exact ⟨[], fun _ => Classical.choice inferInstance, rfl, fun i h => absurd h (by omega)⟩
 ·obtain ⟨v0, b0, _⟩ := h 0 h0
  have : Nonempty α := ⟨v0⟩
  have : Nonempty B := ⟨b0⟩
  let f : Nat → α := fun i => if hi : i < n then (h i hi).choose else v0
  let s : Nat → B := fun i => if hi : i < n then (h i hi).choose_spec.choose else b0
  refine ⟨(List.range n).map f, s, by simp, fun i hi => ?_⟩
  have := (h i hi).choose_spec.choose_spec
  simpa [f, s, hi] using this
section
variable {H : Type} {P : Program} {W : World} {enc : TypeId × Value → H}
theorem opn_int {t : TypeId} {k : IntKind} (hu : P.underlying t = some (.int k)) : Opn P W enc t (tI k) fun v => (Lit.int k v).wf = true := by
 intro n cs x h
 cases n with
 | zero => simp [DataW.trod] at h
 | succ n =>
  unfold DataW.trod at h
  rw [hu] at h
  split at h <;> first | (rename_i he _; cases he; done) | skip
  all_goals simp_all
  all_goals first
   | (obtain ⟨⟨rfl, hw⟩, _⟩ := h; exact ⟨_, fun _ => .nil, rfl, trivial, hw⟩)
   | skip
theorem opn_bool {t : TypeId} (hu : P.underlying t = some .bool) : Opn P W enc t tB fun _ => True := by
 intro n cs x h
 cases n with
 | zero => simp [DataW.trod] at h
 | succ n =>
  unfold DataW.trod at h
  rw [hu] at h
  rcases cs with _ | ⟨c, _ | ⟨c2, r⟩⟩
  ·simp at h
  ·cases c <;> simp at h
   rename_i b
   exact ⟨b, fun _ => .nil, rfl, trivial, trivial⟩
  ·simp at h
theorem cut_at {cs e r : List Value} {o k c : Nat} (hc : c = k) (h : (cs.drop o).take c = e) (h2 : cs.drop (o + k) = r) : cs.drop o = e ++ r := by
 subst hc
 rw [← List.take_append_drop c (cs.drop o), h, List.drop_drop, h2]
theorem cut_end {cs : List Value} {o : Nat} (h : cs.length = o) : cs.drop o = [] := List.drop_eq_nil_of_le (by omega)
end
theorem tab_reads {P : Program} {W : World} {name : String} {k : IntKind} {zs : List Int} {g : Nat} {t e : TypeId} {n : Nat}
  (hg : P.globalNamed name = some g) (hty : (P.globals[g]?).map (·.type) = some t) (ht : P.underlying t = some (.array n e)) (he : P.underlying e = some (.int k)) (hce : P.cellsOf e = 1) (hct : P.cellsOf t = n)
  (hn : zs.length = n) (h : Lib.VarReads P W name (Lib.tabData k zs)) (hpos : Nat.blt 0 n = true) : SlG (tI k) F0 W zs (Gh.mk (some ⟨g, 0, none⟩) n fun _ _ => .nil) := by
 obtain ⟨g', t', cs, fuel, p, hg', ht', hvar, hd⟩ := h
 obtain rfl := Option.some.inj (hg.symm.trans hg')
 obtain rfl := Option.some.inj (hty.symm.trans ht')
 have htab : Lib.TabIs P W name k zs := by unfold Lib.TabIs; rw [hvar, ← Lib.cells_of_tab ht he hce hct hd]
 have hp : 0 < n := by simpa [Nat.blt, Nat.lt_iff_add_one_le] using hpos
 refine ⟨⟨fun _ => rfl, fun _ => ?_, fun _ h => h.elim, fun i hi j v hv => ?_, Nat.le_of_eq hn⟩, fun i hi => trivial⟩
 ·exact cell_lt0 (htab.cell hg 0 (by omega))
 ·have hj : j = 0 := by
   rcases j with _ | j
   ·rfl
   ·simp [tI, Ty.flat] at hv
  subst hj
  have h1 : v = .int k zs[i] := by simpa [tI, Ty.flat] using hv.symm
  subst h1
  have := htab.cell hg i hi
  have h2 : zs.getD i 0 = zs[i] := by simp [List.getD, List.getElem?_eq_getElem hi]
  rw [h2] at this
  have h3 : i * (tI k).z = i := Nat.mul_one i
  show W.cell? ⟨g, 0 + i * (tI k).z + 0, none⟩ = _
  rw [h3, Nat.zero_add]
  exact this
theorem pure_of {P : Program} {f : FuncId} {args : Array Value} {v : Value} {w : World} {L : List Ent} (hL : S0 F0 L w ∧ fpl L = []) (h : S0 F0 L w → Calls P f args w fun e w'' => ∃ u, e = .returned u ∧ u = v ∧ SH F0 (fpl L) w [] w'') :
  Calls P f args w (Pure v w) := by
 refine (h hL.1).mono ?_
 rintro e w'' ⟨u, rfl, rfl, hS⟩
 refine ⟨rfl, ?_⟩
 have := hS.kp
 rw [hL.2] at this
 exact this.below
end Go.V

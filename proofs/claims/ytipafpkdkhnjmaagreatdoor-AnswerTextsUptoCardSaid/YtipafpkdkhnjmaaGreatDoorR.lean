/-
  What came in, as the walks want it: readings opened. Nothing here is a statement of this claim.
-/
import Derived.Test.YtipafpkdkhnjmaaGreatDoorD
import Derived.DataReads
import Derived.ChangeOld
import Derived.ChangeArms
import Derived.Lib.LaidU8
namespace Go.V
open Go Go.RowKit

/-- What a reading of a type tells. -/
def Opn {H : Type} (P : Program) (W : World) (enc : TypeId × Value → H) (t : TypeId) {α : Type} (T : Ty α) (wf : α → Prop) : Prop :=
  ∀ (n : Nat) (cs : List Value) x, DataW.trod enc P W 0 (fun _ => true) true n t cs = some x → ∃ (v : α) (g : Nat → Gh), cs = T.enc v g ∧ T.inn F0 W v g ∧ wf v

theorem cell_lt0 {w : World} {a : Addr} {v : Value} (h : w.cell? a = some v) : a.block < w.heap.size := by
  unfold World.cell? at h
  rcases Nat.lt_or_ge a.block w.heap.size with h1 | h1
  · exact h1
  · rw [Array.getElem?_eq_none h1] at h
    simp at h
theorem Addr.add_off0 (b o i : Nat) : (⟨b, o, none⟩ : Addr).add i = ⟨b, o + i, none⟩ := by
  unfold Addr.add
  split
  · rename_i h
    subst h
    rfl
  · rfl
theorem choose_list {α : Type} {B : Type} [Nonempty B] : ∀ {n : Nat} (p : Nat → α → B → Prop), (∀ i, i < n → ∃ v b, p i v b) → ∃ (l : List α) (s : Nat → B), ∃ (hl : l.length = n), ∀ i (h : i < n), p i (l[i]'(by omega)) (s i) := by
  intro n p h
  classical
  rcases Nat.eq_zero_or_pos n with rfl | h0
  · exact ⟨[], fun _ => Classical.choice inferInstance, rfl, fun i h => absurd h (by omega)⟩
  · obtain ⟨v0, b0, _⟩ := h 0 h0
    have : Nonempty α := ⟨v0⟩
    have : Nonempty B := ⟨b0⟩
    let f : Nat → α := fun i => if hi : i < n then (h i hi).choose else v0
    let s : Nat → B := fun i => if hi : i < n then (h i hi).choose_spec.choose else b0
    refine ⟨(List.range n).map f, s, by simp, fun i hi => ?_⟩
    have := (h i hi).choose_spec.choose_spec
    simpa [f, s, hi] using this

section
variable {H : Type} {P : Program} {W : World} {enc : TypeId × Value → H}
theorem opn_int {t : TypeId} {k : IntKind} (hu : P.underlying t = some (.int k)) : Opn P W enc t (tI k) fun v => (Lit.int k v).wf = true := by
  intro n cs x h
  cases n with
  | zero => simp [DataW.trod] at h
  | succ n =>
    unfold DataW.trod at h
    rw [hu] at h
    split at h <;> first | (rename_i he _; cases he; done) | skip
    all_goals simp_all
    all_goals first
      | (obtain ⟨⟨rfl, hw⟩, _⟩ := h; exact ⟨_, fun _ => .nil, rfl, trivial, hw⟩)
      | skip
theorem cut_at {cs e r : List Value} {o k c : Nat} (hc : c = k) (h : (cs.drop o).take c = e) (h2 : cs.drop (o + k) = r) : cs.drop o = e ++ r := by
  subst hc
  rw [← List.take_append_drop c (cs.drop o), h, List.drop_drop, h2]
theorem cut_end {cs : List Value} {o : Nat} (h : cs.length = o) : cs.drop o = [] := List.drop_eq_nil_of_le (by omega)
end


/-- What a law's walk tells. -/
theorem pure_of {P : Program} {f : FuncId} {args : Array Value} {v : Value} {w : World} {L : List Ent} (hL : S0 F0 L w ∧ fpl L = []) (h : S0 F0 L w → Calls P f args w fun e w'' => ∃ u, e = .returned u ∧ u = v ∧ SH F0 (fpl L) w [] w'') :
    Calls P f args w (Pure v w) := by
  refine (h hL.1).mono ?_
  rintro e w'' ⟨u, rfl, rfl, hS⟩
  refine ⟨rfl, ?_⟩
  have := hS.kp
  rw [hL.2] at this
  exact this.below
end Go.V

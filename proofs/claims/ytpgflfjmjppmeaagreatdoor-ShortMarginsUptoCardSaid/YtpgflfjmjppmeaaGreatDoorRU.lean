/-
 What came in, with its size: readings opened, and how much of the bulk they take. Nothing here is a statement of this claim.
-/
import Derived.Test.YtpgflfjmjppmeaaGreatDoorRows
import Derived.Test.YtpgflfjmjppmeaaGreatDoorR
namespace Go.Proofs.YtpgflfjmjppmeaaGreatDoor
open Go Go.V Go.RowKit
theorem one_le {H : Type} (d : DataW H) : 1 ≤ Rows.uptoBulk d := by
 cases d with
 | lit l => cases l <;> simp [Rows.uptoBulk]
 | nil => simp [Rows.uptoBulk]
 | ptr d => simp [Rows.uptoBulk]
 | slice elems spare => simp [Rows.uptoBulk]
 | agg parts => simp [Rows.uptoBulk]
 | iface t d => simp [Rows.uptoBulk]
 | map entries => simp [Rows.uptoBulk]
 | held h => simp [Rows.uptoBulk]
theorem bulk_agg {H : Type} (parts : List (DataW H)) : Rows.uptoBulk (.agg parts) = Rows.uptoBulkAll parts + 1 := by simp only [Rows.uptoBulk]
theorem bulk_nil {H : Type} : Rows.uptoBulkAll ([] : List (DataW H)) = 0 := by simp only [Rows.uptoBulkAll]
theorem bulk_cons {H : Type} (d : DataW H) (r : List (DataW H)) : Rows.uptoBulkAll (d :: r) = Rows.uptoBulk d + Rows.uptoBulkAll r := by simp only [Rows.uptoBulkAll]
def Opb {H : Type} (P : Program) (W : World) (enc : TypeId × Value → H) (t : TypeId) {α : Type} (T : Ty α) (wf : α → Prop) (bk : α → Nat) : Prop :=
 ∀ (n : Nat) (cs : List Value) x, DataW.trod enc P W 0 (fun _ => true) true n t cs = some x → ∃ (v : α) (g : Nat → Gh), cs = T.enc v g ∧ T.inn F0 W v g ∧ wf v ∧ bk v ≤ Rows.uptoBulk x.1
theorem okWide_array {P : Program} {w : World} {r : Reach} {base : Nat} {t : TypeId} {v : Value} {q : Nat} {e : TypeId} (ht : P.underlying t = some (.array q e)) (h : Value.okWide P w r base t v) : ∃ cs, v = .agg cs ∧ cs.size = P.cellsOf t := by
 simp only [Value.okWide, ht] at h
 obtain ⟨cs, h1, h2, _⟩ := h
 exact ⟨cs, h1, h2⟩
section
variable {H : Type} {P : Program} {W : World} {enc : TypeId × Value → H}
theorem opb_one {t : TypeId} {α : Type} {T : Ty α} {wf : α → Prop} (h : Opn P W enc t T wf) : Opb P W enc t T wf fun _ => 1 := fun n cs x hx => by
 obtain ⟨v, g, h1, h2, h3⟩ := h n cs x hx
 exact ⟨v, g, h1, h2, h3, one_le _⟩
theorem bulk_range : ∀ (ds : List (DataW H)) (f : Nat → Nat), (∀ i (h : i < ds.length), f i = Rows.uptoBulk ds[i]) → Rows.uptoBulkAll ds = ((List.range ds.length).map f).sum
 | [], f, _ => by rw [bulk_nil]; rfl
 | d :: ds, f, h => by
  have h0 := h 0 (by simp)
  have h1 := bulk_range ds (fun i => f (i + 1)) fun i hi => h (i + 1) (by simpa using hi)
  rw [bulk_cons, h1, List.length_cons, List.range_succ_eq_map, List.map_cons, List.sum_cons, h0, List.map_map]
  rfl
theorem opb_elems {n q : Nat} {t e : TypeId} {cs : List Value} {x : DataW H × List MemPlace} (hu : P.underlying t = some (.array q e)) (h : DataW.trod enc P W 0 (fun _ => true) true n t cs = some x) :
  cs.length = P.cellsOf t ∧ ∃ (y : Nat → DataW H × List MemPlace), (∀ i, i < q → ∃ k, DataW.trod enc P W 0 (fun _ => true) true k e ((cs.drop (i * P.cellsOf e)).take (P.cellsOf e)) = some (y i)) ∧ Rows.uptoBulk x.1 = ((List.range q).map fun i => Rows.uptoBulk (y i).1).sum + 1 := by
 cases n with
 | zero => simp [DataW.trod] at h
 | succ k =>
  unfold DataW.trod at h
  rw [hu] at h
  simp only at h
  split at h
  ·rename_i hl
   obtain ⟨xs, hxs, rfl⟩ := Option.map_eq_some_iff.1 h
   have hx : xs.length = q := by have := mapM_some_length hxs; simpa using this
   refine ⟨hl, fun i => xs.getD i (.nil, []), fun i hi => ⟨k, ?_⟩, ?_⟩
   ·have h1 := mapM_some_get hxs i i (by simp [hi])
    rw [h1]
    simp [List.getD, List.getElem?_eq_getElem (show i < xs.length by omega)]
   ·show Rows.uptoBulk (.agg (xs.map (·.1))) = _
    rw [bulk_agg, bulk_range (xs.map (·.1)) (fun i => Rows.uptoBulk (xs.getD i (.nil, [])).1) (fun i hi => by
     have hi' : i < xs.length := by simpa using hi
     simp [List.getD, List.getElem?_eq_getElem hi']), List.length_map, hx]
  ·cases h
end
end Go.Proofs.YtpgflfjmjppmeaaGreatDoor

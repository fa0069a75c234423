/-
 What came in, with its size: readings opened, and how much of the bulk they take. Nothing here is a statement of this claim.
-/
import Derived.Test.YtehlikdeobajcaaGreatDoorRows
import Derived.Test.YtehlikdeobajcaaGreatDoorR
namespace Go.Proofs.YtehlikdeobajcaaGreatDoor
open Go Go.V Go.RowKit
theorem one_le {H : Type} (d : DataW H) : 1 ≤ Rows.uptoBulk d := by
 cases d with
 | lit l => cases l <;> simp [Rows.uptoBulk]
 | nil => simp [Rows.uptoBulk]
 | ptr d => simp [Rows.uptoBulk]
 | slice elems spare => simp [Rows.uptoBulk]
 | agg parts => simp [Rows.uptoBulk]
 | iface t d => simp [Rows.uptoBulk]
 | map entries => simp [Rows.uptoBulk]
 | held h => simp [Rows.uptoBulk]
theorem bulk_str {H : Type} (s : List UInt8) : Rows.uptoBulk (DataW.lit (H := H) (.string s)) = s.length + 1 := by simp [Rows.uptoBulk]
theorem bulk_slice {H : Type} (elems spare : List (DataW H)) : Rows.uptoBulkAll elems + 1 ≤ Rows.uptoBulk (.slice elems spare) := by simp only [Rows.uptoBulk]; omega
theorem bulk_agg {H : Type} (parts : List (DataW H)) : Rows.uptoBulk (.agg parts) = Rows.uptoBulkAll parts + 1 := by simp only [Rows.uptoBulk]
theorem bulk_nil {H : Type} : Rows.uptoBulkAll ([] : List (DataW H)) = 0 := by simp only [Rows.uptoBulkAll]
theorem bulk_cons {H : Type} (d : DataW H) (r : List (DataW H)) : Rows.uptoBulkAll (d :: r) = Rows.uptoBulk d + Rows.uptoBulkAll r := by simp only [Rows.uptoBulkAll]
def Opb {H : Type} (P : Program) (W : World) (enc : TypeId × Value → H) (t : TypeId) {α : Type} (T : Ty α) (wf : α → Prop) (bk : α → Nat) : Prop :=
 ∀ (n : Nat) (cs : List Value) x, DataW.trod enc P W 0 (fun _ => true) true n t cs = some x → ∃ (v : α) (g : Nat → Gh), cs = T.enc v g ∧ T.inn F0 W v g ∧ wf v ∧ bk v ≤ Rows.uptoBulk x.1
def OpbK {H : Type} (K : Nat) (P : Program) (W : World) (enc : TypeId × Value → H) (t : TypeId) {α : Type} (T : Ty α) (wf : α → Prop) (bk : α → Nat) : Prop :=
 ∀ (n : Nat), n < K → ∀ (cs : List Value) x, DataW.trod enc P W 0 (fun _ => true) true n t cs = some x → ∃ (v : α) (g : Nat → Gh), cs = T.enc v g ∧ T.inn F0 W v g ∧ wf v ∧ bk v ≤ Rows.uptoBulk x.1
def bkL {α : Type} (bk : α → Nat) (l : List α) : Nat := (l.map bk).sum + 1
theorem bkL_mem {α : Type} {bk : α → Nat} {l : List α} {x : α} (h : x ∈ l) : bk x ≤ bkL bk l := by
 induction l with
 | nil => cases h
 | cons y l ih =>
  have e : bkL bk (y :: l) = bk y + bkL bk l := by simp [bkL]; omega
  rcases List.mem_cons.1 h with rfl | h
  ·omega
  ·have := ih h; omega
theorem bkL_len {α : Type} {bk : α → Nat} (hb : ∀ x, 1 ≤ bk x) (l : List α) : l.length ≤ bkL bk l := by
 induction l with
 | nil => simp
 | cons y l ih =>
  have e : bkL bk (y :: l) = bk y + bkL bk l := by simp [bkL]; omega
  have := hb y
  simp only [List.length_cons]; omega
section
variable {H : Type} {P : Program} {W : World} {enc : TypeId × Value → H}
theorem opb_one {t : TypeId} {α : Type} {T : Ty α} {wf : α → Prop} (h : Opn P W enc t T wf) : Opb P W enc t T wf fun _ => 1 := fun n cs x hx => by
 obtain ⟨v, g, h1, h2, h3⟩ := h n cs x hx
 exact ⟨v, g, h1, h2, h3, one_le _⟩
theorem opb_str {t : TypeId} (hu : P.underlying t = some .string) : Opb P W enc t tS (fun v => v.length ≤ maxLen) fun v => v.length + 1 := by
 intro n cs x h
 cases n with
 | zero => simp [DataW.trod] at h
 | succ n =>
  unfold DataW.trod at h
  rw [hu] at h
  rcases cs with _ | ⟨c, _ | ⟨c2, r⟩⟩
  ·simp at h
  ·cases c <;> simp at h
   rename_i s
   obtain ⟨h1, h2⟩ := h
   refine ⟨s.data.toList, fun _ => .nil, rfl, trivial, h1, ?_⟩
   rw [← h2, bulk_str]
   exact Nat.le_refl _
  ·simp at h
theorem bulk_all {α : Type} {bk : α → Nat} : ∀ (l : List α) (ds : List (DataW H)), l.length = ds.length → (∀ i (h : i < l.length) (h2 : i < ds.length), bk l[i] ≤ Rows.uptoBulk ds[i]) → (l.map bk).sum ≤ Rows.uptoBulkAll ds
 | [], ds, _, _ => by simp
 | x :: l, [], h, _ => by simp at h
 | x :: l, d :: ds, h, hi => by
  have h0 := hi 0 (by simp) (by simp)
  have h1 := bulk_all (bk := bk) l ds (by simpa using h) fun i a b => hi (i + 1) (by simpa using a) (by simpa using b)
  rw [bulk_cons]
  simp only [List.map_cons, List.sum_cons, List.getElem_cons_zero] at h0 ⊢
  omega
theorem opk_slice {K : Nat} {t e : TypeId} {α : Type} {T : Ty α} {wf : α → Prop} {bk : α → Nat} (hu : P.underlying t = some (.slice e)) (hz : P.cellsOf e = T.z) (hpos : Nat.blt 0 T.z = true) (he : OpbK K P W enc e T wf bk) :
  OpbK (K + 1) P W enc t (Ty.sl T) (fun l => l.length ≤ maxLen ∧ ∀ x ∈ l, wf x) (bkL bk) := by
 intro n0 hn0 cs x h
 have hz0 : 0 < T.z := by simpa [Nat.blt, Nat.lt_iff_add_one_le] using hpos
 obtain ⟨n, rfl⟩ : ∃ n, n0 = n + 1 := by
  cases n0 with
  | zero => simp [DataW.trod] at h
  | succ n => exact ⟨n, rfl⟩
 unfold DataW.trod at h
 rw [hu] at h
 rcases cs with _ | ⟨c, _ | ⟨c2, r⟩⟩
 ·simp at h
 ·cases c <;> simp at h
  rename_i a len cap
  cases a with
  | none =>
   cases len with
   | zero =>
    cases cap with
    | zero => exact ⟨[], fun _ => .nil, rfl, SlG.nil, by simp, by show 1 ≤ _; exact one_le _⟩
    | succ k => simp at h
   | succ k => simp at h
  | some a =>
   simp only at h
   split at h
   ·rename_i hb
    obtain ⟨elems, hel, h⟩ := Option.bind_eq_some_iff.1 h
    have hx : ∃ sp, x.1 = .slice (elems.map (·.1)) sp := by
     obtain ⟨sp, hsp, h⟩ := Option.map_eq_some_iff.1 h
     exact ⟨sp.map (·.1), by rw [← h]⟩
    have hlen : elems.length = len := by
     have := mapM_some_length hel
     simpa using this
    have hget : ∀ i, i < len → ∃ (v : α) (g : Nat → Gh), (∀ j u, (T.enc v g)[j]? = some u → W.cell? (a.add (i * P.cellsOf e + j)) = some u) ∧ T.inn F0 W v g ∧ wf v ∧ ∀ (h : i < elems.length), bk v ≤ Rows.uptoBulk elems[i].1 := by
     intro i hi
     have h1 := mapM_some_get hel i i (by simp [hi])
     rw [List.getElem?_eq_getElem (by omega)] at h1
     obtain ⟨ds, hc, ht⟩ := Option.bind_eq_some_iff.1 h1
     obtain ⟨v, g, hcs, hin, hw, hbk⟩ := he n (by omega) ds _ ht
     obtain ⟨_, hl, hcell⟩ := World.cells?_some hc
     refine ⟨v, g, fun j u hj => ?_, hin, hw, fun _ => hbk⟩
     have hj' : j < ds.length := by
      rw [hcs]
      rcases Nat.lt_or_ge j (T.enc v g).length with h | h
      ·exact h
      ·rw [List.getElem?_eq_none h] at hj; cases hj
     have := hcell j (by omega)
     rw [← Addr.add_add, this, hcs]
     exact hj
    obtain ⟨l, s, hll, hls⟩ := choose_list (n := len) (fun i (v : α) (g : Nat → Gh) => (∀ j u, (T.enc v g)[j]? = some u → W.cell? (a.add (i * P.cellsOf e + j)) = some u) ∧ T.inn F0 W v g ∧ wf v ∧ ∀ (h : i < elems.length), bk v ≤ Rows.uptoBulk elems[i].1) hget
    have hspot : 0 < len → a = ⟨a.block, a.off, none⟩ ∧ a.block < W.heap.size := fun h0 => by
     obtain ⟨h1, _, _⟩ := hls 0 (by omega)
     have hz1 : 0 < (T.enc (l[0]'(by omega)) (s 0)).length := by rw [T.len]; exact hz0
     have h2 := h1 0 _ (List.getElem?_eq_getElem hz1)
     have h3 : a.spot = none := by simpa [Addr.add] using World.cell?_spot h2
     refine ⟨?_, by simpa [Addr.add] using cell_lt0 h2⟩
     obtain ⟨b, o, sp⟩ := a
     cases h3
     rfl
    refine ⟨l, fun _ => .mk (some a) cap (fun i => s i), by show _ = [Value.slice (some a) l.length cap]; rw [hll], ⟨⟨fun h0 => ?_, fun h0 => ?_, fun _ h => h.elim, fun i hi j u hj => ?_, ?_⟩, fun i hi => (hls i (by omega)).2.1⟩, ⟨?_, fun x hx => ?_⟩, ?_⟩
    ·exact (congrArg some (hspot (by omega)).1)
    ·exact (hspot (by omega)).2
    ·have h1 := (hls i (by omega)).1 j u hj
     rw [(hspot (by omega)).1] at h1
     rw [← hz]
     rw [Addr.add_off0] at h1
     simpa [ab, ao, Gh.a, Nat.add_assoc] using h1
    ·show l.length ≤ cap; omega
    ·show l.length ≤ maxLen; omega
    ·obtain ⟨i, hi, rfl⟩ := List.mem_iff_getElem.1 hx
     exact (hls i (by omega)).2.2.1
    ·obtain ⟨sp, hsp⟩ := hx
     rw [hsp]
     have h1 := bulk_all (bk := bk) l (elems.map (·.1)) (by simp; omega) fun i a b => by
      have := (hls i (by omega)).2.2.2 (by simpa using b)
      simpa using this
     have h2 := bulk_slice (elems.map (·.1)) sp
     show (l.map bk).sum + 1 ≤ _
     omega
   ·cases h
 ·simp at h
theorem opb_slice {t e : TypeId} {α : Type} {T : Ty α} {wf : α → Prop} {bk : α → Nat} (hu : P.underlying t = some (.slice e)) (hz : P.cellsOf e = T.z) (hpos : Nat.blt 0 T.z = true) (he : Opb P W enc e T wf bk) :
  Opb P W enc t (Ty.sl T) (fun l => l.length ≤ maxLen ∧ ∀ x ∈ l, wf x) (bkL bk) := fun n cs x h => opk_slice (K := n) hu hz hpos (fun n' _ => he n') n (Nat.lt_succ_self n) cs x h
theorem bulk_range : ∀ (ds : List (DataW H)) (f : Nat → Nat), (∀ i (h : i < ds.length), f i = Rows.uptoBulk ds[i]) → Rows.uptoBulkAll ds = ((List.range ds.length).map f).sum
 | [], f, _ => by rw [bulk_nil]; rfl
 | d :: ds, f, h => by
  have h0 := h 0 (by simp)
  have h1 := bulk_range ds (fun i => f (i + 1)) fun i hi => h (i + 1) (by simpa using hi)
  rw [bulk_cons, h1, List.length_cons, List.range_succ_eq_map, List.map_cons, List.sum_cons, h0, List.map_map]
  rfl
theorem opk_fields {n : Nat} {t : TypeId} {fs : Array Field} {cs : List Value} {x : DataW H × List MemPlace} (hu : P.underlying t = some (.struct fs)) (h : DataW.trod enc P W 0 (fun _ => true) true n t cs = some x) :
  ∃ k, n = k + 1 ∧ cs.length = P.cellsOf t ∧ ∃ (y : Nat → DataW H × List MemPlace), (∀ (i : Nat) (f : Field), fs[i]? = some f → DataW.trod enc P W 0 (fun _ => true) true k f.type ((cs.drop f.offset).take (P.cellsOf f.type)) = some (y i)) ∧ Rows.uptoBulk x.1 = ((List.range fs.size).map fun i => Rows.uptoBulk (y i).1).sum + 1 := by
 obtain ⟨xs, k, rfl, rfl, hl, hx, hf⟩ := DataW.trod_struct hu h
 refine ⟨k, rfl, hl, fun i => xs.getD i (.nil, []), fun i f hi => (hf i f hi).trans ?_, ?_⟩
 ·have : i < xs.length := by rw [hx]; exact (Array.getElem?_eq_some_iff.1 hi).1
  rw [List.getElem?_eq_getElem this]
  simp [List.getD, List.getElem?_eq_getElem this]
 ·show Rows.uptoBulk (.agg (xs.map (·.1))) = _
  rw [bulk_agg, bulk_range (xs.map (·.1)) (fun i => Rows.uptoBulk (xs.getD i (.nil, [])).1) (fun i hi => by
   have hi' : i < xs.length := by simpa using hi
   simp [List.getD, List.getElem?_eq_getElem hi']), List.length_map, hx]
theorem opb_fields {n : Nat} {t : TypeId} {fs : Array Field} {cs : List Value} {x : DataW H × List MemPlace} (hu : P.underlying t = some (.struct fs)) (h : DataW.trod enc P W 0 (fun _ => true) true n t cs = some x) :
  cs.length = P.cellsOf t ∧ ∃ (y : Nat → DataW H × List MemPlace), (∀ (i : Nat) (f : Field), fs[i]? = some f → ∃ k, DataW.trod enc P W 0 (fun _ => true) true k f.type ((cs.drop f.offset).take (P.cellsOf f.type)) = some (y i)) ∧ Rows.uptoBulk x.1 = ((List.range fs.size).map fun i => Rows.uptoBulk (y i).1).sum + 1 := by
 obtain ⟨k, _, hl, y, hf, hb⟩ := opk_fields hu h
 exact ⟨hl, y, fun i f hi => ⟨k, hf i f hi⟩, hb⟩
theorem opb_elems {n q : Nat} {t e : TypeId} {cs : List Value} {x : DataW H × List MemPlace} (hu : P.underlying t = some (.array q e)) (h : DataW.trod enc P W 0 (fun _ => true) true n t cs = some x) :
  cs.length = P.cellsOf t ∧ ∃ (y : Nat → DataW H × List MemPlace), (∀ i, i < q → ∃ k, DataW.trod enc P W 0 (fun _ => true) true k e ((cs.drop (i * P.cellsOf e)).take (P.cellsOf e)) = some (y i)) ∧ Rows.uptoBulk x.1 = ((List.range q).map fun i => Rows.uptoBulk (y i).1).sum + 1 := by
 cases n with
 | zero => simp [DataW.trod] at h
 | succ k =>
  unfold DataW.trod at h
  rw [hu] at h
  simp only at h
  split at h
  ·rename_i hl
   obtain ⟨xs, hxs, rfl⟩ := Option.map_eq_some_iff.1 h
   have hx : xs.length = q := by have := mapM_some_length hxs; simpa using this
   refine ⟨hl, fun i => xs.getD i (.nil, []), fun i hi => ⟨k, ?_⟩, ?_⟩
   ·have h1 := mapM_some_get hxs i i (by simp [hi])
    rw [h1]
    simp [List.getD, List.getElem?_eq_getElem (show i < xs.length by omega)]
   ·show Rows.uptoBulk (.agg (xs.map (·.1))) = _
    rw [bulk_agg, bulk_range (xs.map (·.1)) (fun i => Rows.uptoBulk (xs.getD i (.nil, [])).1) (fun i hi => by
     have hi' : i < xs.length := by simpa using hi
     simp [List.getD, List.getElem?_eq_getElem hi']), List.length_map, hx]
  ·cases h
end
end Go.Proofs.YtehlikdeobajcaaGreatDoor

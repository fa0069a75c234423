/-
 More of the small program logic: slices that the call owns and that may grow. Nothing here is a statement of this claim.
-/
import Derived.Test.YtebkjhhhdgbloaaGreatDoorV
import Derived.Maps.AppendAt
namespace Go.V
open Go Go.RowKit
variable {D : List Deferred}
def abl : Option Addr → List Nat
 | none => []
 | some a => [a.block]
structure Ow {α : Type} (e : TypeId) (enc : α → List Value) (z : Nat) (w : World) (a : Option Addr) (c : Nat) (l : List α) : Prop where
 row : w.ownsRow 0 e z (.slice a l.length c) l.length (l.map enc).flatten
 lt : ∀ b ∈ abl a, b < w.heap.size
 ln : l.length ≤ 4611686018427387904
theorem Ow.kp {α : Type} {e : TypeId} {enc : α → List Value} {z c : Nat} {w w' : World} {a : Option Addr} {l : List α} {X : List Nat} (h : Ow e enc z w a c l) (k : Kp X w w') (hX : ∀ b ∈ abl a, b ∉ X) : Ow e enc z w' a c l := by
 refine ⟨⟨h.row.1, ?_⟩, fun b hb => Nat.lt_of_lt_of_le (h.lt b hb) k.size, h.ln⟩
 rcases h.row.2 with h0 | ⟨g, cap, cur, hv, h1, h2, h3⟩
 ·exact .inl h0
 ·refine .inr ⟨g, cap, cur, hv, h1, ?_, h3⟩
  simp only [Value.slice.injEq] at hv
  obtain ⟨rfl, _⟩ := hv
  exact (k.block g (h.lt g (by simp [abl])) (hX g (by simp [abl]))).trans h2
theorem Ow.below {α : Type} {e : TypeId} {enc : α → List Value} {z c : Nat} {w w' : World} {a : Option Addr} {l : List α} (h : Ow e enc z w a c l) (k : Below w.heap.size w w') : Ow e enc z w' a c l := h.kp (Kp.of_below k []) (by simp)
theorem Ow.nil {α : Type} (e : TypeId) (enc : α → List Value) (z : Nat) (w : World) : Ow e enc z w none 0 ([] : List α) :=
 ⟨⟨by simp, .inl ⟨rfl, rfl⟩⟩, by simp [abl], by simp⟩
theorem Ow.sl {α : Type} {e : TypeId} {enc : α → List Value} {z c : Nat} (hz : ∀ x, (enc x).length = z) {w : World} {a : Option Addr} {l : List α} (h : Ow e enc z w a c l) : Sl enc z w a l := by
 rcases h.row.2 with ⟨h0, h1⟩ | ⟨g, cap, cur, hv, h1, h2, h3, h4, h5, h6⟩
 ·obtain rfl := List.eq_nil_of_length_eq_zero h1
  exact Sl.nil _ _ _ _
 ·simp only [Value.slice.injEq] at hv
  obtain ⟨rfl, _, rfl⟩ := hv
  refine Sl.of_cells hz (cs := cur.toList) (T := e) (fr := (0, 0)) (by simpa using h2) fun q hq => ?_
  rw [← h6, List.getElem?_take, if_pos hq]
theorem flat_len {α : Type} {enc : α → List Value} {z : Nat} (hz : ∀ x, (enc x).length = z) (l : List α) : ((l.map enc).flatten).length = l.length * z := by
 induction l with
 | nil => simp
 | cons x r ih => simp only [List.map_cons, List.flatten_cons, List.length_append, hz, ih, List.length_cons, Nat.add_mul, Nat.one_mul]; omega
theorem flat_of {α : Type} {enc : α → List Value} {z : Nat} (hz : ∀ x, (enc x).length = z) : ∀ (l : List α) (q : Nat) (v : Value), ((l.map enc).flatten)[q]? = some v → ∃ i, ∃ h : i < l.length, ∃ j, q = i * z + j ∧ (enc l[i])[j]? = some v
 | [], q, v, h => by simp at h
 | x :: r, q, v, h => by
  simp only [List.map_cons, List.flatten_cons] at h
  by_cases hq : q < z
  ·rw [List.getElem?_append_left (by rw [hz]; exact hq)] at h
   exact ⟨0, by simp, q, by omega, by simpa using h⟩
  ·rw [List.getElem?_append_right (by rw [hz]; omega), hz] at h
   obtain ⟨i, hi, j, e1, e2⟩ := flat_of hz r _ v h
   exact ⟨i + 1, by simpa using hi, j, by rw [Nat.add_mul, Nat.one_mul]; omega, by simpa using e2⟩
theorem oneCells_mem : ∀ {l : List Value}, oneCells l = true → ∀ u ∈ l, u.oneCell' = true
 | [], _, u, h => by simp at h
 | v :: r, ho, u, h => by
  simp only [oneCells, Bool.and_eq_true] at ho
  rcases List.mem_cons.1 h with rfl | h
  ·exact ho.1
  ·exact oneCells_mem ho.2 u h
theorem Ow.of_blk {α : Type} {e : TypeId} {enc : α → List Value} {z : Nat} (hz : ∀ x, (enc x).length = z) {w : World} {b : Nat} {l : List α} (hl : l.length ≤ 4611686018427387904) (h : w.heap[b]? = some (.cells ⟨(l.map enc).flatten⟩ e (0, 0))) : Ow e enc z w (some ⟨b, 0, none⟩) l.length l := by
 have hb : b < w.heap.size := by
  rcases Nat.lt_or_ge b w.heap.size with hb | hb
  ·exact hb
  ·rw [Array.getElem?_eq_none hb] at h; cases h
 refine ⟨⟨flat_len hz l, .inr ⟨b, l.length, _, rfl, Nat.zero_le _, h, Nat.le_refl _, by unfold maxLen; omega, by simp [flat_len hz], ?_⟩⟩, by simp [abl, hb], hl⟩
 rw [← flat_len hz l]
 exact List.take_length
theorem run_append_ow {P : Program} {α : Type} {w : World} {t ty e : TypeId} {enc : α → List Value} {z bytes : Nat} {zv : Value} (hez : ∀ x, (enc x).length = z) (h1c : ∀ x, oneCells (enc x) = true)
  (hu : P.underlying t = some (.slice e)) (hi : (P.info? e).map (fun i => (i.size, i.bytes, i.zero)) = some (z, bytes, some zv)) (hzs : zv.cells.size = z) (hz : Nat.blt 0 z = true)
  {a1 a2 : Option Addr} {n2 c1 c2 : Nat} {l1 l2 : List α} (how : Ow e enc z w a1 c1 l1) (hsl : Sl enc z w a2 l2) (hn2 : l2.length = n2) (hb : Nat.ble bytes 1024 = true) (hl : (l1.length : Int) + l2.length ≤ 137438953472) :
  ∃ ar cr w', (Builtin.append_ #[t, t] ty #[.slice a1 l1.length c1, .slice a2 n2 c2]).run P w = .ok (.slice ar (l1 ++ l2).length cr) w' ∧ Kp (abl a1) w w' ∧ (ar = a1 ∨ abl ar = [w.heap.size]) ∧ Ow e enc z w' ar cr (l1 ++ l2) := by
 subst hn2
 have hb : bytes ≤ 1024 := by simpa using hb
 have hz0 : 0 < z := by simpa [Nat.blt, Nat.lt_iff_add_one_le] using hz
 cases a2 with
 | none =>
  have h0 : l2 = [] := by
   cases l2 with
   | nil => rfl
   | cons x r => exact absurd (hsl.ok (by simp)) (by simp [oka])
  subst h0
  refine ⟨a1, c1, w, ?_, Kp.refl _ _, .inl rfl, by simpa using how⟩
  cases hinf : P.info? e with
  | none => simp [hinf] at hi
  | some inf =>
   simp [hinf] at hi
   obtain ⟨h2, h3, h4⟩ := hi
   have hle : l1.length ≤ c1 := by
    rcases how.row.2 with ⟨h0, h1⟩ | ⟨g, cap, cur, hv, _, _, h3, _⟩
    ·omega
    ·simp only [Value.slice.injEq] at hv
     obtain ⟨_, _, rfl⟩ := hv
     exact h3
   cases a1 <;> simp [Builtin.append_, run_underlying hu, sizeOf, typeInfo, hinf, Builtin.lenOf, Builtin.firstCells, hle, storeCells]
 | some ad =>
  cases hinf : P.info? e with
  | none => simp [hinf] at hi
  | some inf =>
   simp [hinf] at hi
   obtain ⟨h2, h3, h4⟩ := hi
   have hnews : ∀ j u, ((l2.map enc).flatten)[j]? = some u → w.cell? (ad.add j) = some u := by
    intro j u hj
    obtain ⟨i, hi, q, rfl, hq⟩ := flat_of hez l2 j u hj
    have := hsl.get i hi q u hq
    have ho := hsl.ok (by omega)
    unfold oka at ho
    simp only [Option.some.injEq] at ho
    rw [ho, Addr.add_zero', ← Nat.add_assoc]
    exact this
   have hbn : (l1.length + l2.length) * bytes ≤ 140737488355328 := by
    have : (l1.length + l2.length) * bytes ≤ 137438953472 * 1024 := Nat.mul_le_mul (by omega) hb
    omega
   obtain ⟨v', w', hr, hrow, hg, _, hat⟩ := run_append_own_at (P := P) w 0 t ty e inf zv z bytes hu hinf h4 h2 h3 hzs hz0 (.slice a1 l1.length c1) l1.length _ how.row ad l2.length c2
    ((l2.map enc).flatten) (flat_len hez l2) hnews (by
     intro u hu
     obtain ⟨ys, hys, huy⟩ := List.mem_flatten.1 hu
     obtain ⟨x, _, rfl⟩ := List.mem_map.1 hys
     exact oneCells_mem (h1c x) u huy) (by unfold maxLen; omega) hbn (Nat.zero_le _)
   have hkp : Kp (abl a1) w w' := ⟨hg.os, hg.tape, hg.output, hg.size, fun k hk hx => hg.block k hk (by
    cases a1 with
    | none => simp [Value.ownBlock]
    | some x => simp [abl] at hx; simpa [Value.ownBlock] using hx)⟩
   have hlen : (l1 ++ l2).length = l1.length + l2.length := by simp
   have hfl : ((l1 ++ l2).map enc).flatten = (l1.map enc).flatten ++ (l2.map enc).flatten := by simp
   have fin : ∀ ar cr, v' = .slice ar (l1.length + l2.length) cr → (∀ b ∈ abl ar, b < w'.heap.size) → (ar = a1 ∨ abl ar = [w.heap.size]) →
     ∃ ar cr w', (Builtin.append_ #[t, t] ty #[.slice a1 l1.length c1, .slice (some ad) l2.length c2]).run P w = .ok (.slice ar (l1 ++ l2).length cr) w' ∧ Kp (abl a1) w w' ∧ (ar = a1 ∨ abl ar = [w.heap.size]) ∧ Ow e enc z w' ar cr (l1 ++ l2) := by
    intro ar cr hv hlt hor
    subst hv
    refine ⟨ar, cr, w', by rw [hlen]; exact hr, hkp, hor, ⟨?_, hlt, by omega⟩⟩
    rw [hlen, hfl]
    exact hrow
   rcases hrow.2 with ⟨h0, h1⟩ | ⟨g, cap, cur, hv, _, hgw, h3', _⟩
   ·refine fin none 0 (by rw [h0, h1]) (by simp [abl]) ?_
    left
    rcases hat with h | h
    ·rw [h0] at h
     cases a1 with
     | none => rfl
     | some x => simp [Value.ownBlock] at h
    ·rw [h0] at h; simp [Value.ownBlock] at h
   ·have hgs : g < w'.heap.size := by
     rcases Nat.lt_or_ge g w'.heap.size with hb | hb
     ·exact hb
     ·rw [Array.getElem?_eq_none hb] at hgw; cases hgw
    refine fin (some ⟨g, 0, none⟩) cap hv (by simp [abl, hgs]) ?_
    rw [hv] at hat
    rcases hat with h | h
    ·left
     cases a1 with
     | none => simp [Value.ownBlock] at h
     | some x =>
      simp [Value.ownBlock] at h
      rcases how.row.2 with ⟨h0, _⟩ | ⟨g', _, _, hv', _⟩
      ·simp at h0
      ·simp only [Value.slice.injEq, Option.some.injEq] at hv'
       obtain ⟨rfl, _⟩ := hv'
       simp at h
       subst h
       rfl
    ·right
     simp [Value.ownBlock] at h
     simp [abl, h]
section
variable {P : Program} {Q : Exit → Act → World → Prop} {a : Act} {w : World} {n : Nat} {l : SF} {all : List Oper}
end
def ents (L : List (List Nat)) (G : List Nat) : List (List Nat) := L ++ G.map fun b => [b]
def Dj (A B : List Nat) : Prop := ∀ y ∈ A, y ∉ B
theorem Dj.symm {A B : List Nat} (h : Dj A B) : Dj B A := fun y hb ha => h y ha hb
structure ND (B : Nat) (L : List (List Nat)) (G : List Nat) (w : World) : Prop where
 nd : (ents L G).Pairwise Dj
 lt : ∀ A ∈ ents L G, ∀ y ∈ A, y < w.heap.size
 lo : ∀ A ∈ L, ∀ y ∈ A, B ≤ y
 size : B ≤ w.heap.size
theorem getD_mem {L : List (List Nat)} {i y : Nat} (h : y ∈ L.getD i []) : L.getD i [] ∈ L := by
 rw [List.getD_eq_getElem?_getD] at h ⊢
 cases hg : L[i]? with
 | none => simp [hg] at h
 | some l => simp only [Option.getD_some]; exact List.mem_of_getElem? hg
theorem pw_dj : ∀ {L : List (List Nat)}, L.Pairwise Dj → ∀ (i j : Nat), i ≠ j → Dj (L.getD i []) (L.getD j [])
 | [], _, i, j, _, y, h => by simp at h
 | l :: r, hn, i, j, hij, y, h => by
  rw [List.pairwise_cons] at hn
  match i, j with
  | 0, 0 => exact absurd rfl hij
  | 0, j + 1 =>
   simp only [List.getD_cons_zero, List.getD_cons_succ] at h ⊢
   exact fun hy => hn.1 _ (getD_mem hy) y h hy
  | i + 1, 0 =>
   simp only [List.getD_cons_zero, List.getD_cons_succ] at h ⊢
   exact fun hy => hn.1 _ (getD_mem h) y hy h
  | i + 1, j + 1 =>
   simp only [List.getD_cons_succ] at h ⊢
   exact pw_dj hn.2 i j (by omega) y h
theorem ND.dj {B : Nat} {L : List (List Nat)} {G : List Nat} {w : World} (h : ND B L G w) (i j : Nat) (hij : i ≠ j) : Dj ((ents L G).getD i []) ((ents L G).getD j []) := pw_dj h.nd i j hij
theorem ND.mono {B : Nat} {L : List (List Nat)} {G : List Nat} {w w' : World} (h : ND B L G w) (hs : w.heap.size ≤ w'.heap.size) : ND B L G w' :=
 ⟨h.nd, fun A hA y hy => Nat.lt_of_lt_of_le (h.lt A hA y hy) hs, h.lo, Nat.le_trans h.size hs⟩
theorem ND.birth {B : Nat} {L : List (List Nat)} {G : List Nat} {w w' : World} (h : ND B L G w) (hs : w.heap.size ≤ w'.heap.size) (F : List Nat) (h1 : ∀ y ∈ F, w.heap.size ≤ y) (h2 : ∀ y ∈ F, y < w'.heap.size) : ND B (F :: L) G w' := by
 refine ⟨?_, ?_, ?_, Nat.le_trans h.size hs⟩
 ·show (F :: ents L G).Pairwise Dj
  rw [List.pairwise_cons]
  refine ⟨fun A hA y hy hy2 => ?_, h.nd⟩
  have := h1 y hy
  have := h.lt A hA y hy2
  omega
 ·show ∀ A ∈ F :: ents L G, _
  intro A hA y hy
  rcases List.mem_cons.1 hA with rfl | hA
  ·exact h2 y hy
  ·exact Nat.lt_of_lt_of_le (h.lt A hA y hy) hs
 ·intro A hA y hy
  rcases List.mem_cons.1 hA with rfl | hA
  ·exact Nat.le_trans h.size (h1 y hy)
  ·exact h.lo A hA y hy
def regroup (L : List (List Nat)) (gs : List (List Nat)) : List (List Nat) := gs.map fun g => (g.map fun i => L.getD i []).flatten
theorem mem_grp {L : List (List Nat)} {g : List Nat} {y : Nat} (h : y ∈ (g.map fun i => L.getD i []).flatten) : ∃ i ∈ g, y ∈ L.getD i [] := by
 obtain ⟨A, hA, hy⟩ := List.mem_flatten.1 h
 obtain ⟨i, hi, rfl⟩ := List.mem_map.1 hA
 exact ⟨i, hi, hy⟩
theorem ND.regroup {B : Nat} {L : List (List Nat)} {G : List Nat} {w : World} (h : ND B L G w) (gs : List (List Nat)) (hg : gs.flatten.Nodup) : ND B (V.regroup L gs) G w := by
 have hsub : ∀ g ∈ gs, ∀ y ∈ (g.map fun i => L.getD i []).flatten, ∃ A ∈ L, y ∈ A := fun g _ y hy => by
  obtain ⟨i, _, hi⟩ := mem_grp hy
  exact ⟨_, getD_mem hi, hi⟩
 refine ⟨?_, ?_, ?_, h.size⟩
 ·unfold ents
  rw [List.pairwise_append]
  have hold := h.nd
  unfold ents at hold
  rw [List.pairwise_append] at hold
  refine ⟨?_, hold.2.1, ?_⟩
  ·unfold V.regroup
   rw [List.pairwise_map]
   clear hsub
   induction gs with
   | nil => exact List.Pairwise.nil
   | cons g r ih =>
    rw [List.flatten_cons, List.nodup_append] at hg
    rw [List.pairwise_cons]
    refine ⟨fun g' hg' y hy hy' => ?_, ih hg.2.1⟩
    obtain ⟨i, hi, hyi⟩ := mem_grp hy
    obtain ⟨j, hj, hyj⟩ := mem_grp hy'
    have hne : i ≠ j := fun e => hg.2.2 i hi j (List.mem_flatten.2 ⟨g', hg', hj⟩) e
    exact pw_dj hold.1 i j hne y hyi hyj
  ·intro A hA C hC y hy hyC
   obtain ⟨g, hg', rfl⟩ := List.mem_map.1 hA
   obtain ⟨i, _, hyi⟩ := mem_grp hy
   exact hold.2.2 _ (getD_mem hyi) C hC y hyi hyC
 ·intro A hA y hy
  rcases List.mem_append.1 hA with hA | hA
  ·obtain ⟨g, hg', rfl⟩ := List.mem_map.1 hA
   obtain ⟨A, hA, hyA⟩ := hsub g hg' y hy
   exact h.lt A (List.mem_append_left _ hA) y hyA
  ·exact h.lt A (List.mem_append_right _ hA) y hy
 ·intro A hA y hy
  obtain ⟨g, hg', rfl⟩ := List.mem_map.1 hA
  obtain ⟨A, hA, hyA⟩ := hsub g hg' y hy
  exact h.lo A hA y hyA
theorem ND.move {B : Nat} {G : List Nat} {w w' : World} : ∀ {L : List (List Nat)} (i : Nat) (F : List Nat), ND B L G w → w.heap.size ≤ w'.heap.size → (∀ y ∈ F, y ∈ L.getD i [] ∨ w.heap.size ≤ y) → (∀ y ∈ F, y < w'.heap.size) → ND B (L.set i F) G w'
 | [], i, F, h, hs, h1, h2 => by simpa using h.mono hs
 | l :: r, 0, F, h, hs, h1, h2 => by
  have hn : (l :: ents r G).Pairwise Dj := h.nd
  rw [List.pairwise_cons] at hn
  simp only [List.getD_cons_zero] at h1
  refine ⟨?_, ?_, ?_, Nat.le_trans h.size hs⟩
  ·show (F :: ents r G).Pairwise Dj
   rw [List.pairwise_cons]
   refine ⟨fun A hA y hy hyA => ?_, hn.2⟩
   rcases h1 y hy with h3 | h3
   ·exact hn.1 A hA y h3 hyA
   ·have := h.lt A (List.mem_cons_of_mem _ hA) y hyA
    omega
  ·show ∀ A ∈ F :: ents r G, _
   intro A hA y hy
   rcases List.mem_cons.1 hA with rfl | hA
   ·exact h2 y hy
   ·exact Nat.lt_of_lt_of_le (h.lt A (List.mem_cons_of_mem _ hA) y hy) hs
  ·intro A hA y hy
   rcases List.mem_cons.1 hA with rfl | hA
   ·rcases h1 y hy with h3 | h3
    ·exact h.lo l List.mem_cons_self y h3
    ·exact Nat.le_trans h.size h3
   ·exact h.lo A (List.mem_cons_of_mem _ hA) y hy
 | l :: r, i + 1, F, h, hs, h1, h2 => by
  have hn : (l :: ents r G).Pairwise Dj := h.nd
  rw [List.pairwise_cons] at hn
  have hr : ND B r G w := ⟨hn.2, fun A hA => h.lt A (List.mem_cons_of_mem _ hA), fun A hA => h.lo A (List.mem_cons_of_mem _ hA), h.size⟩
  simp only [List.getD_cons_succ] at h1
  have hm := ND.move i F hr hs h1 h2
  have hold : ∀ A ∈ ents (r.set i F) G, ∀ y ∈ A, (∃ C ∈ ents r G, y ∈ C) ∨ w.heap.size ≤ y := by
   intro A hA y hy
   rcases List.mem_append.1 hA with hA | hA
   ·rcases List.mem_or_eq_of_mem_set hA with hA | rfl
    ·exact .inl ⟨A, List.mem_append_left _ hA, hy⟩
    ·rcases h1 y hy with h3 | h3
     ·exact .inl ⟨_, List.mem_append_left _ (getD_mem h3), h3⟩
     ·exact .inr h3
   ·exact .inl ⟨A, List.mem_append_right _ hA, hy⟩
  refine ⟨?_, ?_, ?_, Nat.le_trans h.size hs⟩
  ·show (l :: ents (r.set i F) G).Pairwise Dj
   rw [List.pairwise_cons]
   refine ⟨fun A hA y hy hyA => ?_, hm.nd⟩
   rcases hold A hA y hyA with ⟨C, hC, hyC⟩ | h3
   ·exact hn.1 C hC y hy hyC
   ·have := h.lt l List.mem_cons_self y hy
    omega
  ·show ∀ A ∈ l :: ents (r.set i F) G, _
   intro A hA y hy
   rcases List.mem_cons.1 hA with rfl | hA
   ·exact Nat.lt_of_lt_of_le (h.lt A List.mem_cons_self y hy) hs
   ·exact hm.lt A hA y hy
  ·intro A hA y hy
   rcases List.mem_cons.1 hA with rfl | hA
   ·exact h.lo A List.mem_cons_self y hy
   ·exact hm.lo A hA y hy
structure DoesX (P : Program) (f : FuncId) (args : Array Value) (w : World) (R : Value → World → Prop) : Prop where
 call : ∀ w, (callFunc f args).run P w = .ok (.enter f args) w
 run : Calls P f args w fun e w' => ∃ v, e = .returned v ∧ R v w'
section
variable {P : Program} {Q : Exit → Act → World → Prop} {a : Act} {w : World} {n : Nat} {l : SF} {all : List Oper}
end
theorem ND.join {B B' : Nat} {L Lc : List (List Nat)} {G Gc : List Nat} {w w' : World} (h : ND B L G w) (hs : w.heap.size ≤ w'.heap.size) (hB : w.heap.size ≤ B') (hc : ND B' Lc Gc w') : ND B (Lc ++ L) G w' := by
 have hcp := hc.nd
 unfold ents at hcp
 rw [List.pairwise_append] at hcp
 refine ⟨?_, ?_, ?_, Nat.le_trans h.size hs⟩
 ·show ((Lc ++ L) ++ _).Pairwise Dj
  rw [List.append_assoc, List.pairwise_append]
  refine ⟨hcp.1, h.nd, fun A hA C hC y hy hyC => ?_⟩
  have := hc.lo A hA y hy
  have := h.lt C hC y hyC
  omega
 ·show ∀ A ∈ (Lc ++ L) ++ _, _
  rw [List.append_assoc]
  intro A hA y hy
  rcases List.mem_append.1 hA with hA | hA
  ·exact hc.lt A (List.mem_append_left _ hA) y hy
  ·exact Nat.lt_of_lt_of_le (h.lt A hA y hy) hs
 ·intro A hA y hy
  rcases List.mem_append.1 hA with hA | hA
  ·have := hc.lo A hA y hy
   have := h.size
   omega
  ·exact h.lo A hA y hy
theorem ND.nil {B : Nat} {L : List (List Nat)} {G : List Nat} {w : World} (h : ND B L G w) : ND B ([] :: L) G w := h.birth (Nat.le_refl _) [] (by simp) (by simp)
theorem ND.drop {B : Nat} {L L' : List (List Nat)} {G : List Nat} {w : World} (h : ND B L G w) (hs : L'.Sublist L) : ND B L' G w :=
 ⟨h.nd.sublist (hs.append_right _), fun A hA => h.lt A ((hs.append_right _).subset hA), fun A hA => h.lo A (hs.subset hA), h.size⟩
def pick : List (List Nat) → List Bool → List (List Nat)
 | l :: r, true :: b => l :: pick r b
 | _ :: r, false :: b => pick r b
 | _, _ => []
theorem pick_sub : ∀ (L : List (List Nat)) (b : List Bool), (pick L b).Sublist L
 | l :: r, true :: b => (pick_sub r b).cons_cons l
 | l :: r, false :: b => (pick_sub r b).cons l
 | [], _ => by simp [pick]
 | _ :: _, [] => by simp [pick]
theorem ND.pick {B : Nat} {L : List (List Nat)} {G : List Nat} {w : World} (h : ND B L G w) (b : List Bool) : ND B (V.pick L b) G w := h.drop (pick_sub L b)
theorem Ow.mem {α : Type} {e : TypeId} {enc : α → List Value} {z c : Nat} {w : World} {a : Option Addr} {l : List α} (h : Ow e enc z w a c l) (hl : 0 < l.length) : ab a ∈ abl a := by
 cases a with
 | some x => simp [abl, ab]
 | none =>
  rcases h.row.2 with ⟨_, h1⟩ | ⟨g, cap, cur, hv, _⟩
  ·omega
  ·simp at hv
theorem Blk.ltl {w : World} {b : Nat} {cs : List Value} (h : Blk w b cs) : ∀ y ∈ [b], y < w.heap.size := by simpa using h.lt
theorem ND.sel {B : Nat} {L : List (List Nat)} {G : List Nat} {w : World} (h : ND B L G w) (ks : List Nat) (hk : ks.Nodup) : ND B (ks.map fun i => L.getD i []) G w := by
 have e : V.regroup L (ks.map fun i => [i]) = ks.map fun i => L.getD i [] := by
  unfold V.regroup
  rw [List.map_map]
  exact List.map_congr_left fun i _ => by simp
 have e2 : (ks.map fun i => [i]).flatten = ks := by
  clear hk e
  induction ks with
  | nil => rfl
  | cons k r ih => simp only [List.map_cons, List.flatten_cons, List.singleton_append, ih]
 have := h.regroup (ks.map fun i => [i]) (by rw [e2]; exact hk)
 rw [e] at this
 exact this
end Go.V

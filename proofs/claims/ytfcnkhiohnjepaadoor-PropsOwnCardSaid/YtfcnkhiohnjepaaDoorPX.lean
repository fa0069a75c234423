/-
  A row of structs of the call's own: of the rows below nothing is told but that they are the call's own too. Nothing here is a statement of this claim.
-/
import Derived.Test.YtfcnkhiohnjepaaDoorD
set_option linter.unusedVariables false
namespace Go.V
open Go Go.RowKit
theorem heap_lt {w : World} {b : Nat} {o : Obj} (h : w.heap[b]? = some o) : b < w.heap.size := by
  rcases Nat.lt_or_ge b w.heap.size with h' | h'
  · exact h'
  · rw [Array.getElem?_eq_none h'] at h; cases h
/-- A variable's block, cell by cell, whole. -/
def Ent.tab (g : Nat) (cs : List Value) : Ent where
  fp := []
  p := fun M w => (∃ T fr, w.heap[g]? = some (.cells ⟨cs⟩ T fr)) ∧ ¬ M g
  kp := fun h k hM _ => ⟨by obtain ⟨⟨T, fr, h1⟩, h2⟩ := h; exact ⟨T, fr, (k.block _ (heap_lt h1) (fun hx => h2 (hM _ hx))).trans h1⟩, h.2⟩
  anti := fun h hM => ⟨h.1, fun hb => h.2 (hM _ hb)⟩
  fresh := fun h => ⟨h.1, fun hb => by
    obtain ⟨⟨T, fr, h1⟩, h2⟩ := h
    rcases hb with hb | hb
    · exact h2 hb
    · have := heap_lt h1; omega⟩
  lt := fun _ b hb => by cases hb
theorem s0tab {w : World} {L : List Ent} (h : S0 F0 L w ∧ fpl L = []) {g : Nat} {cs : List Value} {M : Av} (hs : (Ent.tab g cs).p M w) : S0 F0 (.tab g cs :: L) w ∧ fpl (.tab g cs :: L) = [] := by
  have he : fpl (.tab g cs :: L) = [] := by simp [fpl, Ent.tab, h.2]
  refine ⟨?_, he⟩
  have hs2 : SH F0 (fpl L) w (.tab g cs :: L) w := h.1.add rfl ⟨hs.1, fun hm => by
    rcases hm with hm | hm
    · exact hm
    · rw [h.2] at hm; cases hm⟩
  rw [h.2] at hs2
  show SH F0 (fpl (.tab g cs :: L)) w _ w
  rw [he]
  exact hs2
/-- What lies below: it may be written. -/
def RowL (lo : Nat) (M : Av) (w : World) (g : Gh) (n : Nat) : Prop :=
  0 < n → oka g.a ∧ lo ≤ ab g.a ∧ ab g.a < w.heap.size ∧ ¬ M (ab g.a) ∧ ∃ cs T, w.heap[ab g.a]? = some (.cells ⟨cs⟩ T (0, 0)) ∧ ao g.a + n ≤ cs.length
section
variable {lo n : Nat} {M M' : Av} {w w' : World} {g : Gh} {X : List Nat}
theorem RowL.kp (h : RowL lo M w g n) (k : Kp X w w') (hX : ∀ b ∈ X, M b) : RowL lo M w' g n := fun hn => by
  obtain ⟨h1, h2, h3, h4, cs, T, h5, h6⟩ := h hn
  exact ⟨h1, h2, Nat.lt_of_lt_of_le h3 k.size, h4, cs, T, (k.block (ab g.a) h3 (fun hx => h4 (hX _ hx))).trans h5, h6⟩
theorem RowL.anti (h : RowL lo M w g n) (hM : ∀ b, M' b → M b) : RowL lo M' w g n := fun hn => by
  obtain ⟨h1, h2, h3, h4, h5⟩ := h hn
  exact ⟨h1, h2, h3, fun hm => h4 (hM _ hm), h5⟩
theorem RowL.fresh (h : RowL lo M w g n) : RowL lo (fun b => M b ∨ w.heap.size ≤ b) w g n := fun hn => by
  obtain ⟨h1, h2, h3, h4, h5⟩ := h hn
  exact ⟨h1, h2, h3, fun hm => by
    rcases hm with hm | hm
    · exact h4 hm
    · omega, h5⟩
/-- A store into one of them. -/
theorem RowL.set (h : RowL lo M w g n) {b : Nat} {cs cs' : List Value} {T : TypeId} (k : Kp [b] w w') (hb : w.heap[b]? = some (.cells ⟨cs⟩ T (0, 0))) (hb' : w'.heap[b]? = some (.cells ⟨cs'⟩ T (0, 0))) (hl : cs'.length = cs.length) : RowL lo M w' g n := fun hn => by
  obtain ⟨h1, h2, h3, h4, ds, U, h5, h6⟩ := h hn
  refine ⟨h1, h2, Nat.lt_of_lt_of_le h3 k.size, h4, ?_⟩
  by_cases hx : ab g.a = b
  · rw [hx] at h5 ⊢
    rw [hb] at h5
    obtain ⟨rfl, rfl⟩ : cs = ds ∧ T = U := by simpa using h5
    exact ⟨cs', T, hb', by omega⟩
  · exact ⟨ds, U, (k.block _ h3 (by simpa using hx)).trans h5, h6⟩
theorem RowL.oki (h : RowL lo M w g n) {i : Int} (hi : 0 ≤ i ∧ i < (n : Int)) : oka g.a ∧ 0 ≤ i ∧ i < (n : Int) := ⟨(h (by omega)).1, hi⟩
end
theorem low_of {lo : Nat} {M M' : Av} {w : World} {α : Type} {T : Ty α} {l : List α} {g : Gh} (hz : T.z = 1) (he : ∀ x g, (T.enc x g).length = 1) (h : SlG T M w l g) (hb : 0 < l.length → lo ≤ ab g.a ∧ ab g.a ≠ 0 ∧ ¬ M' (ab g.a)) : RowL lo M' w g l.length := fun hn => by
  obtain ⟨hb1, hb2, hb3⟩ := hb hn
  obtain ⟨cs, T', hc⟩ := h.1.fz hn hb2
  refine ⟨h.1.ok hn, hb1, h.1.lt hn, hb3, cs.toList, T', by simpa using hc, ?_⟩
  have hl := he l[l.length - 1] (g.s (l.length - 1))
  have := h.1.get (l.length - 1) (by omega) 0 _ (List.getElem?_eq_getElem (by rw [hl]; exact Nat.one_pos))
  rw [hz, Nat.mul_one, Nat.add_zero] at this
  simp only [World.cell?, hc] at this
  obtain ⟨h2, _⟩ := Array.getElem?_eq_some_iff.1 (by simpa using this)
  simp only [Array.length_toList]
  omega
/-- The same cells, but of what lies below: it may be written. -/
def tyLow {α : Type} (T : Ty α) (lo : Nat) (n0 n1 : α → Nat) : Ty α where
  z := T.z
  enc := T.enc
  inn := fun M w x g => RowL lo M w (g 0) (n0 x) ∧ RowL lo M w (g 1) (n1 x)
  len := T.len
  one := T.one
  kp := fun h k hX => ⟨h.1.kp k hX, h.2.kp k hX⟩
  anti := fun h hM => ⟨h.1.anti hM, h.2.anti hM⟩
  fresh := fun h => ⟨h.1.fresh, h.2.fresh⟩
/-! ## A fresh table -/
/-- All that is there, but for the table 0. -/
def Mx (w : World) : Av := fun b => b < w.heap.size ∧ b ≠ 0
section
variable {M : Av} {X : List Nat} {w0 w w' : World}
theorem mx_call {tb : List Int} {n : Nat} {s : Nat → Nat → Gh} (h : SlG (tI .u8) M w tb (Gh.mk (some ⟨0, 0, none⟩) n s)) : S0 (Mx w) [.im (tI .u8) tb (Gh.mk (some ⟨0, 0, none⟩) n s)] w := by
  refine ⟨Kp.refl _ _, by simp, fun b hb => by simp [fpl, Ent.im] at hb, fun b hb => by simp [fpl, Ent.im] at hb, fun b hm => hm.1, fun e he => ?_⟩
  rw [List.mem_singleton] at he
  subst he
  refine ⟨⟨h.1.ok, h.1.lt, fun _ hm => ?_, h.1.get, h.1.cp, h.1.fz⟩, fun _ _ => trivial⟩
  rcases hm with hm | hm
  · exact hm.2 rfl
  · simp [fpl, Ent.im] at hm
/-- Cells of the table. -/
theorem tab_cell {cs : List Value} {off : Nat} {v : Value} (ht : (Ent.tab 0 cs).p M w) (hv : w.cell? ⟨0, off, none⟩ = some v) : v ∈ cs := by
  obtain ⟨⟨T, fr, h1⟩, _⟩ := ht
  simp only [World.cell?, h1] at hv
  have hv : cs[off]? = some v := by simpa using hv
  exact List.mem_of_getElem? hv
/-- A new slice of which something does not stand in the table 0. -/
theorem new_low {α : Type} {T : Ty α} {M' : Av} {l : List α} {g : Gh} {cs : List Value} {lo : Nat} {u : α → Value} (hz : T.z = 1) (hu : ∀ x g, T.enc x g = [u x]) (ht : (Ent.tab 0 cs).p (fun _ => False) w) (hc : ∀ x ∈ l, u x ∉ cs) (h : SlG T M w l g)
    (hk : ∀ b, b ≠ 0 → ¬ M b → lo ≤ b ∧ ¬ M' b) : RowL lo M' w g l.length := by
  refine low_of hz (fun x g => by rw [hu]; rfl) h fun hl => ?_
  have hb : ab g.a ≠ 0 := fun hb => by
    have h2 := h.1.get 0 hl 0 (u l[0]) (by rw [hu]; rfl)
    rw [hb] at h2
    exact hc _ (List.getElem_mem hl) (tab_cell ht h2)
  exact ⟨(hk _ hb (h.1.av hl)).1, hb, (hk _ hb (h.1.av hl)).2⟩
/-- Behind a call that returned a table: what lies below is new. -/
theorem fresh_J {α α0 α1 : Type} {E : TypeId} {T : Ty α} {T0 : Ty α0} {T1 : Ty α1} {f0 : α → List α0} {f1 : α → List α1} {u0 : α0 → Value} {u1 : α1 → Value} {L : List α} {g : Gh} {tb : List Int} {gt : Gh} {cs : List Value}
    (hS : SH M X w0 [.im (tI .u8) tb gt, .tab 0 cs] w) (hq : SH (Mx w) (fpl [Ent.im (tI .u8) tb gt]) w [.own E T L g] w')
    (hz0 : T0.z = 1) (hz1 : T1.z = 1) (hu0 : ∀ x g, T0.enc x g = [u0 x]) (hu1 : ∀ x g, T1.enc x g = [u1 x]) (hT : ∀ M w x g, T.inn M w x g → SlG T0 M w (f0 x) (g 0) ∧ SlG T1 M w (f1 x) (g 1))
    (hc0 : ∀ x ∈ L, ∀ y ∈ f0 x, u0 y ∉ cs) (hc1 : ∀ x ∈ L, ∀ y ∈ f1 x, u1 y ∉ cs) :
    ∃ lo, 0 < lo ∧ w0.heap.size ≤ lo ∧ SH M X w0 [.own E (tyLow T lo (fun x => (f0 x).length) fun x => (f1 x).length) L g, .im (tI .u8) tb gt] w' := by
  have hk : Kp [] w w' := hq.kp
  have ht : (Ent.tab 0 cs).p _ w := hS.at 1 rfl
  have ht' : (Ent.tab 0 cs).p (fun _ => False) w' := (Ent.tab 0 cs).anti ((Ent.tab 0 cs).kp ht hk (by simp) (by simp)) (fun _ h => h.elim)
  have hp : 0 < w.heap.size := by
    obtain ⟨⟨T', fr, h2⟩, _⟩ := ht
    rcases Nat.eq_zero_or_pos w.heap.size with h3 | h3
    · rw [Array.getElem?_eq_none (by omega)] at h2; cases h2
    · exact h3
  have hw := hS.kp.size
  have hlow : ∀ b ∈ abl g.a, w.heap.size ≤ b := fun b hb => by
    rcases hq.lo b (by simpa [fpl, Ent.own] using hb) with h2 | h2
    · exact h2
    · simp [fpl, Ent.im] at h2
  generalize hT' : tyLow T w.heap.size (fun x => (f0 x).length) (fun x => (f1 x).length) = T'
  have hin : ∀ b, AvL M [Ent.own E T' L g, Ent.im (tI .u8) tb gt] b → M b ∨ b ∈ abl g.a := fun b hb => by
    rcases hb with hb | hb
    · exact .inl hb
    · exact .inr (by simpa [fpl, Ent.own, Ent.im] using hb)
  refine ⟨w.heap.size, hp, hw, ?_⟩
  rw [hT']
  refine ⟨hS.kp.trans hk (by simp), by simp [Dj, Ent.im], fun b hb => ?_, fun b hb hm => ?_, hS.mx, fun e he => ?_⟩
  · have := hlow b (by simpa [fpl, Ent.own, Ent.im] using hb)
    exact .inl (by omega)
  · have h2 := hlow b (by simpa [fpl, Ent.own, Ent.im] using hb)
    have h3 := hS.mx b hm
    omega
  · simp only [List.mem_cons, List.not_mem_nil, or_false] at he
    rcases he with rfl | rfl
    · have ho : OwG E T _ w' L g := hq.ow 0 rfl
      subst hT'
      refine ⟨ho.ow, fun i hi => ?_⟩
      obtain ⟨hn0, hn1⟩ := hT _ _ _ _ (ho.inn i hi)
      have key : ∀ b, b ≠ 0 → ¬ AvL (Mx w) [Ent.own E T L g] b → w.heap.size ≤ b ∧ ¬ AvL M [Ent.own E (tyLow T w.heap.size (fun x => (f0 x).length) fun x => (f1 x).length) L g, Ent.im (tI .u8) tb gt] b := fun b hz hm => by
        have hs : w.heap.size ≤ b := by
          rcases Nat.lt_or_ge b w.heap.size with h2 | h2
          · exact absurd (.inl ⟨h2, hz⟩) hm
          · exact h2
        refine ⟨hs, fun h2 => ?_⟩
        rcases hin b h2 with h2 | h2
        · have := hS.mx b h2
          omega
        · exact hm (.inr (by simpa [fpl, Ent.own] using h2))
      exact ⟨new_low hz0 hu0 ht' (hc0 _ (List.getElem_mem hi)) hn0 key, new_low hz1 hu1 ht' (hc1 _ (List.getElem_mem hi)) hn1 key⟩
    · have hg : (Ent.im (tI .u8) tb gt).p _ w := hS.at 0 rfl
      have hg2 := (Ent.im (tI .u8) tb gt).fresh hg
      refine (Ent.im (tI .u8) tb gt).anti ((Ent.im (tI .u8) tb gt).kp hg2 hk (by simp) (by simp)) fun b hb => ?_
      rcases hin b hb with h2 | h2
      · exact .inl (.inl h2)
      · exact .inr (hlow b h2)
end
/-! ## A store below -/
section
variable {P : Program} {D : List Deferred} {n : Nat} {l : SF} {a : Act} {M : Av} {X : List Nat} {w0 w : World}
theorem o_low {α : Type} {T : Ty α} {t E ty : TypeId} {x y : Operand} {pos : String} {after : Array Edge} {g gr gt : Gh} {q : List α} {tb : List Int} {lo k : Nat} {n0 n1 : α → Nat} {ix : Int} {v : Value} (H : FrG D n l a)
    (hS : SH M X w0 [.own E (tyLow T lo n0 n1) q g, .im (tI .u8) tb gt] w) (h0 : 0 < lo) (hlo : w0.heap.size ≤ lo) (hgt : ab gt.a = 0) (hr : RowL lo (AvL M [.own E (tyLow T lo n0 n1) q g, .im (tI .u8) tb gt]) w gr k) (hix : 0 ≤ ix ∧ ix < (k : Int))
    (hx : ev l [] x = some (.pointer (some ⟨ab gr.a, ao gr.a + ix.toNat * 1, none⟩))) (hy : ev l [] y = some v) (hz : (P.info? t).map (·.size) = some v.cells.toList.length) (h1 : oneCells v.cells.toList = true) (hv : v.cells.toList.length = 1) :
    Stp P ⟨none, .store t x y, ty, pos, after, none⟩ a w fun _ w' => SH M X w0 [.own E (tyLow T lo n0 n1) q g, .im (tI .u8) tb gt] w' := by
  obtain ⟨_, hb1, hb2, hb3, cs, U, hb4, hb5⟩ := hr (by omega)
  rw [Nat.mul_one] at hx
  obtain ⟨w', h2, h3, hT'⟩ := run_storeCellsT (P := P) (off := ao gr.a + ix.toNat) v.cells.toList 0 w cs h1 hb4 (by omega)
  rw [Nat.add_zero] at hT'
  have hsz : (sizeOf t).run P w = .ok v.cells.size w := size_of_info (by simpa using hz)
  have hnf : ab gr.a ∉ abl g.a := fun hm => hb3 (.inr (by simpa [fpl, Ent.own, Ent.im] using hm))
  refine Stp.skip (w' := w') ?_ rfl fun _ => ⟨hS.kp.trans h3 (fun b hb => .inr ?_), hS.nd, hS.lo, hS.nm, hS.mx, fun e he => ?_⟩
  · simp [execOp, H.ev (okc_nil a) hx, H.ev (okc_nil a) hy, Instr.storeAt, Instr.sureAddr, storeVar, hsz, h2]
  · simp only [List.mem_singleton] at hb
    omega
  · simp only [List.mem_cons, List.not_mem_nil, or_false] at he
    rcases he with rfl | rfl
    · have ho := hS.ow 0 rfl
      have hl : (setL cs (ao gr.a + ix.toNat) v.cells.toList).length = cs.length := setL_len _ _ _
      exact ⟨ho.ow.kp h3 (fun b hb hb' => hnf (by simp only [List.mem_singleton] at hb'; exact hb' ▸ hb)), fun i hi => ⟨(ho.inn i hi).1.set h3 hb4 hT' hl, (ho.inn i hi).2.set h3 hb4 hT' hl⟩⟩
    · have hg := hS.im 1 rfl
      have hb0 : w'.heap[ab gt.a]? = w.heap[ab gt.a]? ∨ ¬ 0 < tb.length := by
        by_cases hl : 0 < tb.length
        · exact .inl (h3.block _ (hg.1.lt hl) (by rw [hgt]; simp only [List.mem_singleton]; omega))
        · exact .inr hl
      refine ⟨⟨hg.1.ok, fun hl => Nat.lt_of_lt_of_le (hg.1.lt hl) h3.size, hg.1.av, fun i hi j u hu => ?_, hg.1.cp, fun _ hn => absurd hgt hn⟩, fun _ _ => trivial⟩
      rcases hb0 with hb0 | hb0
      · rw [World.cell?_of_block (w := w) hb0]
        exact hg.1.get i hi j u hu
      · omega
end
end Go.V

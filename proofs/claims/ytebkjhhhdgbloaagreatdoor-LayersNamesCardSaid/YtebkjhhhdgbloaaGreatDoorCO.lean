/-
 'copy' into a slice of the call's own, and parts of it that are seen alone. Nothing here is a statement of this claim.
-/
import Derived.Test.YtebkjhhhdgbloaaGreatDoorO
import Derived.Laws.IdiomCopy
namespace Go.V
open Go Go.RowKit
variable {D : List Deferred}
def sva (a : Option Addr) (c i z : Nat) : Option Addr := if c = i then a else a.map (·.add (i * z))
theorem add_zero' (x : Addr) : x.add 0 = x := by unfold Addr.add; split <;> simp_all
theorem sva0 (a : Option Addr) (c z : Nat) : a = sva a c 0 z := by
 unfold sva
 split
 ·rfl
 ·cases a with
  | none => rfl
  | some x => simp [add_zero']
section
variable {P : Program} {a : Act} {w : World} {n : Nat} {l : SF} {M : Av}
end
def cpN {α : Type} : List α → Nat → List α → List α
 | q, _, [] => q
 | q, i, x :: r => cpN (q.set i x) (i + 1) r
def cpS (s : Nat → Nat → Gh) (i : Nat) : Nat → (Nat → Nat → Gh) → Nat → Nat → Gh
 | 0, _ => s
 | k + 1, gs => cpS (fun j => if j = i then gs 0 else s j) (i + 1) k (fun j => gs (j + 1))
def cpn {α : Type} (q : List α) (i : Int) (xs : List α) : Int := (Nat.min xs.length (q.length - i.toNat) : Nat)
def cpl {α : Type} (q : List α) (i : Int) (xs : List α) : List α := cpN q i.toNat (xs.take (Nat.min xs.length (q.length - i.toNat)))
theorem cpN_len {α : Type} : ∀ (xs q : List α) (i : Nat), (cpN q i xs).length = q.length
 | [], _, _ => rfl
 | x :: r, q, i => by rw [cpN, cpN_len r]; simp
theorem cpl_len {α : Type} (q : List α) (i : Int) (xs : List α) : (cpl q i xs).length = q.length := cpN_len _ _ _
theorem cp_inn {α : Type} {R : α → (Nat → Gh) → Prop} : ∀ (xs q : List α) (i : Nat) (s gs : Nat → Nat → Gh), i + xs.length ≤ q.length → (∀ k (h : k < q.length), R q[k] (s k)) → (∀ k (h : k < xs.length), R xs[k] (gs k)) →
  ∀ k (h : k < (cpN q i xs).length), R (cpN q i xs)[k] (cpS s i xs.length gs k)
 | [], q, i, s, gs, _, h1, _, k, h => h1 k h
 | x :: r, q, i, s, gs, hl, h1, h2, k, h => by
  simp only [List.length_cons] at hl
  refine cp_inn r (q.set i x) (i + 1) (fun j => if j = i then gs 0 else s j) (fun j => gs (j + 1)) (by simp; omega) (fun k' h' => ?_) (fun k' h' => ?_) k h
  ·by_cases e : k' = i
   ·subst e
    simp only [List.getElem_set_self, if_true]
    exact h2 0 (by simp)
   ·have h3 : k' < q.length := by simpa using h'
    rw [List.getElem_set_ne (fun he => e he.symm), if_neg e]
    exact h1 k' h3
  ·exact h2 (k' + 1) (by simpa using h')
theorem flat_cons {α : Type} (T : Ty α) (x : α) (r : List α) (gs : Nat → Nat → Gh) : ((zipG (x :: r) gs 0).map (encp T)).flatten = T.enc x (gs 0) ++ ((zipG r (fun j => gs (j + 1)) 0).map (encp T)).flatten := by
 simp only [zipG, List.map_cons, List.flatten_cons]
 rw [zipG_shift r gs (fun j => gs (j + 1)) (0 + 1) 0 (fun q => by simp [Nat.add_comm])]
 rfl
theorem cp_flat {α : Type} {T : Ty α} (hz : T.z = 1) : ∀ (xs q : List α) (i : Nat) (s gs : Nat → Nat → Gh), i + xs.length ≤ q.length →
  setL ((zipG q s 0).map (encp T)).flatten i ((zipG xs gs 0).map (encp T)).flatten = ((zipG (cpN q i xs) (cpS s i xs.length gs) 0).map (encp T)).flatten
 | [], q, i, s, gs, _ => rfl
 | x :: r, q, i, s, gs, hl => by
  simp only [List.length_cons] at hl
  have he : ∃ v, T.enc x (gs 0) = [v] := by
   have := T.len x (gs 0)
   rw [hz] at this
   exact List.length_eq_one_iff.1 this
  obtain ⟨v, hv⟩ := he
  have hi : i < q.length := by omega
  have h1 := zipG_set (T := T) (l := q) (s := s) (x := x) (gx := gs 0) (i := i) (off := 0) (z := 1) (vs := [v]) (fun x g => by rw [T.len, hz]) hi (by
   have h2 : ∃ u, T.enc q[i] (s i) = [u] := by
    have := T.len q[i] (s i)
    rw [hz] at this
    exact List.length_eq_one_iff.1 this
   obtain ⟨u, hu⟩ := h2
   rw [hu, hv]
   rfl) (by simp)
  rw [Nat.mul_one, Nat.add_zero] at h1
  have h3 := cp_flat hz r (q.set i x) (i + 1) (fun j => if j = i then gs 0 else s j) (fun j => gs (j + 1)) (by simp; omega)
  rw [flat_cons, hv]
  show setL ((((zipG q s 0).map (encp T)).flatten).set i v) (i + 1) _ = _
  have h4 : (((zipG q s 0).map (encp T)).flatten).set i v = ((zipG (q.set i x) (fun k => if k = i then gs 0 else s k) 0).map (encp T)).flatten := h1
  rw [h4]
  exact h3
theorem flat_at {α : Type} {T : Ty α} (hz : T.z = 1) : ∀ (xs : List α) (gs : Nat → Nat → Gh) (j : Nat) (h : j < xs.length), (T.enc xs[j] (gs j))[0]? = (((zipG xs gs 0).map (encp T)).flatten)[j]?
 | x :: r, gs, 0, h => by
  rw [flat_cons, List.getElem?_append_left (by rw [T.len, hz]; decide)]
  rfl
 | x :: r, gs, j + 1, h => by
  rw [flat_cons, List.getElem?_append_right (by rw [T.len, hz]; omega), T.len, hz, Nat.add_sub_cancel]
  exact flat_at hz r (fun j => gs (j + 1)) j (by simpa using h)
theorem flat_one {α : Type} {T : Ty α} : ∀ (xs : List α) (gs : Nat → Nat → Gh), oneCells ((zipG xs gs 0).map (encp T)).flatten = true
 | [], _ => rfl
 | x :: r, gs => by
  rw [flat_cons]
  have h1 := T.one x (gs 0)
  have h2 := flat_one (T := T) r (fun j => gs (j + 1))
  generalize T.enc x (gs 0) = u at *
  induction u with
  | nil => exact h2
  | cons v t ih =>
   simp only [oneCells, Bool.and_eq_true, List.cons_append] at h1 ⊢
   exact ⟨h1.1, ih h1.2⟩
section
variable {P : Program} {a : Act} {w : World} {n : Nat} {l : SF} {M : Av}
theorem o_copy {α : Type} {T : Ty α} {d : Nat} {tx ty1 E ty e : TypeId} {x y : Operand} {pos : String} {after : Array Edge} {g gx : Gh} {q xs : List α} {L : List Ent} {n0 c0 m0 c1 : Nat} {a0 a1 : Option Addr} (i : Int) (H : FrG D n l a) (hS : S0 M (.own e T q g :: L) w)
  (hs : SlG T F0 w xs gx) (hin : ∀ k (h : k < xs.length), T.inn (AvL M (.own e T q g :: L)) w xs[k] (gx.s k))
  (hx : ev l [] x = some (.slice a0 n0 c0)) (ha : a0 = sva g.a g.c i.toNat T.z) (hn : q.length - i.toNat = n0)
  (hy : ev l [] y = some (.slice a1 m0 c1)) (ha1 : gx.a = a1) (hm : xs.length = m0)
  (hu : P.underlying tx = some (.slice E)) (hz : (P.info? E).map (·.size) = some 1) (hz1 : T.z = 1) (hi : 0 ≤ i ∧ i ≤ ln q) (_hL : fpl L = []) :
  Stp P ⟨some d, .call ⟨.builtin .copy, #[x, y], #[tx, ty1]⟩, ty, pos, after, none⟩ a w fun v w' => v = .int .i64 (cpn q i xs) ∧ ∃ s : Nat → Nat → Gh, SH M (fpl (.own e T q g :: L)) w [.own e T (cpl q i xs) (.mk g.a g.c s)] w' := by
 subst ha hn ha1 hm
 have ho := hS.ow 0 rfl
 have hm0 : Nat.min xs.length (q.length - i.toNat) ≤ xs.length := Nat.min_le_left _ _
 have hm1 : Nat.min xs.length (q.length - i.toNat) ≤ q.length - i.toNat := Nat.min_le_right _ _
 have hiq : i.toNat ≤ q.length := by unfold ln at hi; omega
 have fin : ∀ (s : Nat → Nat → Gh) (w' : World), Kp (fpl (.own e T q g :: L)) w w' → Ow e (encp T) T.z w' g.a g.c (zipG (cpl q i xs) s 0) →
   (∀ k (h : k < (cpl q i xs).length), T.inn (AvL M (.own e T q g :: L)) w (cpl q i xs)[k] (s k)) → SH M (fpl (.own e T q g :: L)) w [.own e T (cpl q i xs) (.mk g.a g.c s)] w' := fun s w' hk how hii => by
  have lo : ∀ y ∈ fpl [Ent.own e T (cpl q i xs) (.mk g.a g.c s)], w.heap.size ≤ y ∨ y ∈ fpl (.own e T q g :: L) := fun y hy => .inr (by
   simp only [fpl, List.append_nil] at hy
   simp only [fpl, List.mem_append]
   exact .inl hy)
  refine SH.step hS hk (by simp) lo ?_
  intro f hf
  rw [List.mem_singleton] at hf
  subst hf
  exact ⟨how, fun k hk2 => T.step hS hk lo (hii k hk2)⟩
 generalize hmm : Nat.min xs.length (q.length - i.toNat) = m at *
 have hxl : (xs.take m).length = m := by rw [List.length_take]; omega
 have hii : ∀ k (h : k < (cpl q i xs).length), T.inn (AvL M (.own e T q g :: L)) w (cpl q i xs)[k] (cpS g.s i.toNat m gx.s k) := by
  unfold cpl
  rw [hmm]
  have := cp_inn (R := fun x g' => T.inn (AvL M (.own e T q g :: L)) w x g') (xs.take m) q i.toNat g.s gx.s (by rw [hxl]; omega) ho.inn (fun k h => by
   rw [List.getElem_take]
   exact hin k (by rw [hxl] at h; omega))
  rw [hxl] at this
  exact this
 rcases Nat.eq_zero_or_pos m with h0 | h0
 ·
  have hr := run_copy_none (P := P) w tx ty1 ty E (sva g.a g.c i.toNat T.z) gx.a (q.length - i.toNat) c0 xs.length c1 hu hz (hmm.trans h0)
  have hq : cpl q i xs = q := by unfold cpl; rw [hmm, h0]; rfl
  have hcs : cpS g.s i.toNat m gx.s = g.s := by rw [h0]; rfl
  refine Stp.of_run (v := .int .i64 (cpn q i xs)) (w' := w) ?_ ⟨rfl, g.s, fin _ _ (Kp.refl _ _) (by rw [hq]; exact ho.ow) (by rw [← hcs]; exact hii)⟩
  unfold cpn
  rw [hmm, h0]
  simp only [execOp, resolve, Sem.run_bind, Sem.run_pure, Result.andThen_ok, invoke, builtin, List.map_toArray, List.map_cons, List.map_nil, H.ev (okc_nil a) hx, H.ev (okc_nil a) hy, hr]
  rfl
 ·rcases ho.ow.row.2 with ⟨h1, hn1⟩ | ⟨b, cap, cur, hv, _, hw, hc1, hc2, hc3, hc4⟩
  ·rw [zipG_len] at hn1; omega
  ·simp only [Value.slice.injEq] at hv
   obtain ⟨hga, _, hgc⟩ := hv
   rw [zipG_len] at hc1 hc4
   rw [hz1, Nat.mul_one] at hc3 hc4
   have hblt : b < w.heap.size := by
    rcases Nat.lt_or_ge b w.heap.size with hb | hb
    ·exact hb
    ·rw [Array.getElem?_eq_none hb] at hw; cases hw
   have hsv : sva g.a g.c i.toNat T.z = some ⟨b, i.toNat, none⟩ := by
    unfold sva
    rw [if_neg (by rw [hgc]; omega), hga, hz1, Nat.mul_one]
    show some ((⟨b, 0, none⟩ : Addr).add i.toNat) = _
    unfold Addr.add
    simp
    omega
   have hao : oka gx.a := hs.1.ok (by omega)
   obtain ⟨bs, os, hgx⟩ : ∃ bs os, gx.a = some ⟨bs, os, none⟩ := by
    cases hg : gx.a with
    | none => rw [hg] at hao; simp [oka] at hao
    | some A =>
     rw [hg] at hao
     obtain ⟨bs, os, r⟩ := A
     cases r with
     | none => exact ⟨bs, os, rfl⟩
     | some _ => simp [oka] at hao
   let cs := ((zipG (xs.take m) gx.s 0).map (encp T)).flatten
   have hcl : cs.length = m := by
    show (((zipG (xs.take m) gx.s 0).map (encp T)).flatten).length = m
    rw [flat_len (enc := encp T) (z := T.z) (fun p => T.len p.1 p.2), zipG_len, hxl, hz1, Nat.mul_one]
   have hsrc : ∀ j v, cs[j]? = some v → w.cell? ((⟨bs, os, none⟩ : Addr).add j) = some v := by
    intro j v hj
    have hjm : j < m := by
     rcases Nat.lt_or_ge j m with h | h
     ·exact h
     ·rw [List.getElem?_eq_none (by omega)] at hj; cases hj
    have hg := hs.1.get j (by omega) 0 v (by
     rw [← flat_at hz1 (xs.take m) gx.s j (by rw [hxl]; exact hjm), List.getElem_take] at hj
     exact hj)
    rw [hgx, hz1, Nat.mul_one, Nat.add_zero] at hg
    unfold Addr.add
    split
    ·rename_i h0; rw [h0] at hg; exact hg
    ·exact hg
   have hl := run_loadCells_list (P := P) w ⟨bs, os, none⟩ cs hsrc
   obtain ⟨w', h2, h3, hT'⟩ := run_storeCellsT (P := P) (off := i.toNat) cs 0 w cur.toList (flat_one _ _) (by simpa using hw) (by rw [hcl]; simp only [Array.length_toList]; omega)
   rw [Nat.add_zero] at hT'
   have hkp : Kp (fpl (.own e T q g :: L)) w w' := h3.wide (by intro y hy; simp only [List.mem_singleton] at hy; subst hy; simp only [fpl, List.mem_append]; left; simp only [Ent.own, hga, abl, List.mem_singleton])
   have hfl := cp_flat (T := T) hz1 (xs.take m) q i.toNat g.s gx.s (by rw [hxl]; omega)
   rw [hxl] at hfl
   have hcp : cpN q i.toNat (xs.take m) = cpl q i xs := by unfold cpl; rw [hmm]
   rw [hcp] at hfl
   refine Stp.of_run (v := .int .i64 (cpn q i xs)) (w' := w') ?_ ⟨rfl, cpS g.s i.toNat m gx.s, fin _ _ hkp ⟨⟨?_, .inr ⟨b, cap, ⟨setL cur.toList i.toNat cs⟩, ?_, Nat.zero_le _, by simpa using hT', ?_, hc2, ?_, ?_⟩⟩, ?_, ?_⟩ hii⟩
   ·have hcpn : cpn q i xs = (m : Int) := by unfold cpn; rw [hmm]
    rw [hcpn]
    have hcr : (Builtin.copy_ #[tx, ty1] ty #[.slice (sva g.a g.c i.toNat T.z) (q.length - i.toNat) c0, .slice gx.a xs.length c1]).run P w = .ok (goInt m) w' := by
     rw [hsv, hgx]
     cases hqq : P.info? E with
     | none => simp [hqq] at hz
     | some inf =>
      have hi1 : inf.size = 1 := by simpa [hqq] using hz
      rw [hcl] at hl
      simp [Builtin.copy_, run_underlying hu, Builtin.lenOf, Builtin.firstCells, sizeOf, typeInfo, hqq, hi1, hmm, hl, h2]
    simp only [execOp, resolve, Sem.run_bind, Sem.run_pure, Result.andThen_ok, invoke, builtin, List.map_toArray, List.map_cons, List.map_nil, H.ev (okc_nil a) hx, H.ev (okc_nil a) hy, hcr]
    rfl
   ·rw [flat_len (enc := encp T) (fun p => T.len p.1 p.2), zipG_len]
   ·rw [hga, hgc]
   ·rw [zipG_len, cpl_len]; exact hc1
   ·simp [setL_len, hc3, hz1]
   ·rw [zipG_len, hz1, Nat.mul_one, cpl_len]
    show (setL cur.toList _ _).take q.length = _
    rw [setL_take _ _ _ _ (by rw [hcl]; omega), hc4, hfl]
   ·intro y hy
    rw [hga] at hy
    simp [abl] at hy
    subst hy
    exact Nat.lt_of_lt_of_le hblt h3.size
   ·rw [zipG_len, cpl_len]
    have := ho.ow.ln
    rw [zipG_len] at this
    exact this
end
end Go.V

/-
 'append' onto a slice that is read and has no room: a new row. A thing of the call's own that is lent. Nothing here is a statement of this claim.
-/
import Derived.Test.YtpgflfjmjppmeaaGreatDoorO
import Derived.ArgAppend
namespace Go.V
open Go Go.RowKit
theorem run_append_full {P : Program} {α : Type} {w : World} {t ty e : TypeId} {enc : α → List Value} {z bytes : Nat} {zv : Value} (hez : ∀ x, (enc x).length = z)
  (hu : P.underlying t = some (.slice e)) (hi : (P.info? e).map (fun i => (i.size, i.bytes, i.zero)) = some (z, bytes, some zv)) (hzs : zv.cells.size = z) (hz : Nat.blt 0 z = true)
  {a1 a2 : Option Addr} {n2 c2 : Nat} {l1 l2 : List α} (hsl1 : Sl enc z w a1 l1) (hsl : Sl enc z w a2 l2) (hn2 : l2.length = n2) (hb : Nat.ble bytes 128 = true) (hl : (l1.length : Int) + l2.length ≤ 1099511627776) (h01 : 0 < l1.length) (h02 : 0 < l2.length) :
  ∃ ar cr w', (Builtin.append_ #[t, t] ty #[.slice a1 l1.length l1.length, .slice a2 n2 c2]).run P w = .ok (.slice ar (l1 ++ l2).length cr) w' ∧ Kp [] w w' ∧ (∀ b ∈ abl ar, w.heap.size ≤ b) ∧ Ow e enc z w' ar cr (l1 ++ l2) := by
 subst hn2
 have hb : bytes ≤ 128 := by simpa using hb
 have hz0 : 0 < z := by simpa [Nat.blt, Nat.lt_iff_add_one_le] using hz
 cases a1 with
 | none => exact absurd (hsl1.ok h01) (by simp [oka])
 | some ad1 =>
  cases a2 with
  | none => exact absurd (hsl.ok h02) (by simp [oka])
  | some ad =>
   cases hinf : P.info? e with
   | none => simp [hinf] at hi
   | some inf =>
    simp [hinf] at hi
    obtain ⟨h2, h3, h4⟩ := hi
    have cells : ∀ {a : Addr} {l : List α}, Sl enc z w (some a) l → ∀ j u, ((l.map enc).flatten)[j]? = some u → w.cell? (a.add j) = some u := by
     intro a l hs j u hj
     obtain ⟨i, hi, q, rfl, hq⟩ := flat_of hez l j u hj
     have := hs.get i hi q u hq
     have ho := hs.ok (by omega)
     unfold oka at ho
     simp only [Option.some.injEq] at ho
     rw [ho, Addr.add_zero', ← Nat.add_assoc]
     exact this
    have hbn : (l1.length + l2.length) * bytes ≤ 140737488355328 := by
     have : (l1.length + l2.length) * bytes ≤ 1099511627776 * 128 := Nat.mul_le_mul (by omega) hb
     omega
    obtain ⟨v', w', hr, hrow, hg⟩ := run_append_arg_grows (P := P) w t ty e inf zv z bytes hu hinf h4 h2 h3 hzs hz0 ad1 l1.length l1.length _ (flat_len hez l1) (cells hsl1) ad l2.length c2
     ((l2.map enc).flatten) (flat_len hez l2) (cells hsl) (by omega) (by unfold maxLen; omega) hbn
    have hkp : Kp [] w w' := ⟨hg.os, hg.tape, hg.output, hg.size, fun k hk _ => hg.block k hk (by simp)⟩
    have hlen : (l1 ++ l2).length = l1.length + l2.length := by simp
    have hfl : ((l1 ++ l2).map enc).flatten = (l1.map enc).flatten ++ (l2.map enc).flatten := by simp
    rcases hrow.2 with ⟨h0, h1⟩ | ⟨g, cap, cur, hv, hbase, hgw, h3'⟩
    ·omega
    ·have hgs : g < w'.heap.size := by
      rcases Nat.lt_or_ge g w'.heap.size with hb | hb
      ·exact hb
      ·rw [Array.getElem?_eq_none hb] at hgw; cases hgw
     subst hv
     refine ⟨some ⟨g, 0, none⟩, cap, w', by rw [hlen]; exact hr, hkp, by simpa [abl] using hbase, ⟨?_, by simp [abl, hgs], by omega⟩⟩
     rw [hlen, hfl]
     exact ⟨hrow.1, .inr ⟨g, cap, cur, rfl, Nat.zero_le _, hgw, h3'⟩⟩
section
variable {P : Program} {a : Act} {w : World} {n : Nat} {l : SF} {M : Av} {D : List Deferred}
theorem o_appF {α : Type} {T : Ty α} {d : Nat} {s x : Operand} {t ty e : TypeId} {pos : String} {after : Array Edge} {zv : Value} {g1 g2 : Gh} {n1 n2 c1 c2 : Nat} {a1 a2 : Option Addr} {l1 l2 : List α} (q : List α) (hq : l1 ++ l2 = q) (H : FrG D n l a) {L : List Ent} (hS : S0 M L w)
  (hm1 : SlG T (AvL M L) w l1 g1) (hm2 : SlG T (AvL M L) w l2 g2) (hL : fpl L = [])
  (hs : ev l [] s = some (.slice a1 n1 c1)) (hx : ev l [] x = some (.slice a2 n2 c2)) (ha1 : g1.a = a1) (hc1 : c1 = n1) (ha2 : g2.a = a2) (hn1 : l1.length = n1) (hn2 : l2.length = n2)
  (hu : P.underlying t = some (.slice e)) (hi : (P.info? e).map (fun i => (i.size, Nat.ble i.bytes 128, i.zero)) = some (T.z, true, some zv)) (hzs : zv.cells.size = T.z) (hz : Nat.blt 0 T.z = true)
  (h00 : 0 < V.ln l1 ∧ 0 < V.ln l2) (hl : V.ln l1 + V.ln l2 ≤ 1099511627776) :
  Stp P ⟨some d, .call ⟨.builtin .append, #[s, x], #[t, t]⟩, ty, pos, after, none⟩ a w fun v w' => ∃ g : Gh, v = .slice g.a q.length g.c ∧ SH M (fpl L) w [.own e T q g] w' := by
 subst ha1 ha2 hc1 hn1 hq
 have h01 : 0 < l1.length := by have := h00.1; unfold V.ln at this; omega
 have h02 : 0 < l2.length := by have := h00.2; unfold V.ln at this; omega
 obtain ⟨bytes, hi2, hb⟩ : ∃ bytes, (P.info? e).map (fun i => (i.size, i.bytes, i.zero)) = some (T.z, bytes, some zv) ∧ Nat.ble bytes 128 = true := by
  cases hinf : P.info? e with
  | none => simp [hinf] at hi
  | some inf =>
   simp [hinf] at hi
   exact ⟨inf.bytes, by simp [hi.1, hi.2.2], by simpa using hi.2.1⟩
 have e1 : (zipG l1 g1.s 0).length = l1.length := zipG_len ..
 have e2 : (zipG l2 g2.s 0).length = l2.length := zipG_len ..
 obtain ⟨ar, cr, w', hr, hk, hf, how⟩ := run_append_full (P := P) (ty := ty) (c2 := c2) (fun p : α × (Nat → Gh) => T.len p.1 p.2) hu hi2 hzs hz hm1.zip hm2.zip (e2.trans hn2) hb (by unfold V.ln at hl; rw [e1, e2]; exact hl) (by rw [e1]; exact h01) (by rw [e2]; exact h02)
 rw [e1] at hr
 refine Stp.of_run (v := .slice ar (l1 ++ l2).length cr) (w' := w') ?_ ⟨.mk ar cr (sApp l1.length g1.s g2.s), rfl, ?_⟩
 ·simp only [execOp, resolve, Sem.run_bind, Sem.run_pure, Result.andThen_ok, invoke, builtin, List.map_toArray, List.map_cons, List.map_nil, H.ev (okc_nil a) hs, H.ev (okc_nil a) hx, hr]
  simp [zipG_len]
 ·have hk' : Kp (fpl L) w w' := by rw [hL]; exact hk
  have lo : ∀ b ∈ fpl [Ent.own e T (l1 ++ l2) (.mk ar cr (sApp l1.length g1.s g2.s))], w.heap.size ≤ b ∨ b ∈ fpl L := by
   intro b hb
   simp only [fpl, Ent.own, List.append_nil] at hb
   exact .inl (hf b hb)
  refine SH.step hS hk' (by simp) lo ?_
  intro f hf2
  rw [List.mem_singleton] at hf2
  subst hf2
  refine ⟨?_, inn_app (fun i hi => T.step hS hk' lo (hm1.2 i hi)) (fun i hi => T.step hS hk' lo (hm2.2 i hi))⟩
  show Ow e (encp T) T.z w' ar cr (zipG (l1 ++ l2) (sApp l1.length g1.s g2.s) 0)
  rw [zipG_app]
  exact how
end
section
variable {M : Av} {X : List Nat} {w0 w w' : World} {L R : List Ent}
theorem SH.lendH {α : Type} {E : TypeId} {T : Ty α} {l : List α} {g : Gh} (h : SH M X w0 (.own E T l g :: L) w) : S0 (AvL M L) [.im T l g] w := by
 have h2 := h.frz1
 have hf : ∀ b, b ∉ fpl [Ent.im T l g] := fun b hb => by simp [fpl, Ent.im] at hb
 refine ⟨Kp.refl _ _, by simp, fun b hb => absurd hb (hf b), fun b hb => absurd hb (hf b), fun b hm => ?_, fun e he => ?_⟩
 ·rcases hm with hm | hm
  ·exact Nat.lt_of_lt_of_le (h.mx b hm) h.kp.size
  ·obtain ⟨e, he, hb⟩ := mem_fpl.1 hm
   exact e.lt (h.ps e (List.mem_cons_of_mem _ he)) b hb
 ·rw [List.mem_singleton] at he
  subst he
  refine (Ent.im T l g).anti (h2.ps _ List.mem_cons_self) fun b hb => ?_
  rcases hb with (hb | hb) | hb
  ·exact .inl hb
  ·exact .inr (by simp only [fpl, List.mem_append]; exact .inr hb)
  ·exact absurd hb (hf b)
theorem SH.lendJ {α : Type} {E : TypeId} {T : Ty α} {l : List α} {g : Gh} (h : SH M X w0 (.own E T l g :: L) w) (h2 : SH (AvL M L) (fpl [.im T l g]) w R w') (hR : ∀ e ∈ R, ∀ M M' w, e.p M w → e.p M' w) : SH M X w0 (R ++ .own E T l g :: L) w' := by
 have hx : fpl [Ent.im T l g] = [] := rfl
 have hk : Kp [] w w' := hx ▸ h2.kp
 have hlt : ∀ {b : Nat}, b ∈ fpl (Ent.own E T l g :: L) → b < w.heap.size := fun hb => by
  obtain ⟨e, he, hb⟩ := mem_fpl.1 hb
  exact e.lt (h.ps e he) _ hb
 have hlo : ∀ {b : Nat}, b ∈ fpl R → w.heap.size ≤ b := fun hb => by
  rcases h2.lo _ hb with h1 | h1
  ·exact h1
  ·rw [hx] at h1; cases h1
 have hin : ∀ {b : Nat}, b ∈ fpl (R ++ .own E T l g :: L) → b ∈ fpl R ∨ b ∈ fpl (Ent.own E T l g :: L) := fun hb => by
  obtain ⟨e, he, hb⟩ := mem_fpl.1 hb
  rcases List.mem_append.1 he with he | he
  ·exact .inl (mem_fpl.2 ⟨e, he, hb⟩)
  ·exact .inr (mem_fpl.2 ⟨e, he, hb⟩)
 refine ⟨h.kp.trans hk (fun y hy => by cases hy), ?_, fun b hb => ?_, fun b hb => ?_, h.mx, fun e he => ?_⟩
 ·rw [List.pairwise_append]
  refine ⟨h2.nd, h.nd, fun e he f hf y hy hyf => ?_⟩
  have h3 := hlo (mem_fpl.2 ⟨e, he, hy⟩)
  have h4 := hlt (mem_fpl.2 ⟨f, hf, hyf⟩)
  omega
 ·rcases hin hb with hb | hb
  ·exact .inl (Nat.le_trans h.kp.size (hlo hb))
  ·exact h.lo b hb
 ·rcases hin hb with hb | hb
  ·exact fun hm => h2.nm b hb (.inl hm)
  ·exact h.nm b hb
 ·rcases List.mem_append.1 he with he | he
  ·exact hR e he _ _ _ (h2.ps e he)
  ·have hp := e.fresh (h.ps e he)
   refine e.anti (e.kp hp hk (fun b hb => by cases hb) (fun b hb hb' => by cases hb')) fun b hb => ?_
   rcases hb with hb | hb
   ·exact .inl (.inl hb)
   ·rcases hin hb with hb | hb
    ·exact .inr (hlo hb)
    ·exact .inl (.inr hb)
theorem free_own {α : Type} {E : TypeId} {T : Ty α} (hT : ∀ M M' w x g, T.inn M w x g → T.inn M' w x g) (l : List α) (g : Gh) : ∀ M M' w, (Ent.own E T l g).p M w → (Ent.own E T l g).p M' w := fun _ _ _ h => ⟨h.ow, fun i hi => hT _ _ _ _ _ (h.inn i hi)⟩
theorem free1 {e : Ent} (h : ∀ M M' w, e.p M w → e.p M' w) : ∀ e' ∈ [e], ∀ M M' w, e'.p M w → e'.p M' w := fun e' he => by
 rw [List.mem_singleton] at he
 subst he
 exact h
end
section
variable {P : Program} {a : Act} {w : World} {n : Nat} {l : SF} {M : Av} {D : List Deferred}
theorem o_subF {α : Type} {T : Ty α} {d : Nat} {t E ty : TypeId} {x hi mx : Operand} {pos : String} {after : Array Edge} {g : Gh} {q : List α} {n0 c0 : Nat} {a0 : Option Addr} {L : List Ent} {k k2 : IntKind} (j : Int) (H : FrG D n l a) (hS : S0 M L w) (hs : SlG T (AvL M L) w q g)
  (hx : ev l [] x = some (.slice a0 n0 c0)) (ha : g.a = a0) (hc : g.c = c0) (hn : q.length = n0) (hhi : ev l [] hi = some (.int k j)) (hmx : ev l [] mx = some (.int k2 j))
  (hu : P.underlying t = some (.slice E)) (hz : (P.info? E).map (·.size) = some T.z) (hij : 0 ≤ j ∧ j ≤ ln q) :
  Stp P ⟨some d, .slice t x none (some hi) (some mx), ty, pos, after, none⟩ a w fun v w' => ∃ g' : Gh, v = .slice g'.a (subl q 0 j).length (subl q 0 j).length ∧ SH M (fpl L) w (.im T (subl q 0 j) (.mk g'.a (subl q 0 j).length g'.s) :: L) w' := by
 subst ha hc hn
 have hij3 : 0 ≤ (0 : Int) ∧ (0 : Int) ≤ j ∧ j ≤ ln q := ⟨Int.le_refl 0, hij.1, hij.2⟩
 have hlen : (subl q 0 j).length = j.toNat := by rw [subl_len q hij3]; rfl
 have hlc := hs.1.cp
 have hsz : (sizeOf E).run P w = .ok T.z w := size_of_info hz
 have hj : j.toNat ≤ g.c := by unfold ln at hij; omega
 have hsl : SlG T (AvL M L) w (subl q 0 j) (.mk (if j.toNat = 0 then g.a else g.a.map (·.add (0 * T.z))) j.toNat (fun k => g.s ((0 : Int).toNat + k))) := by
  rcases Nat.eq_zero_or_pos (subl q 0 j).length with h0 | h0
  ·have := List.eq_nil_of_length_eq_zero h0
   rw [this]
   exact SlG.nil
  ·rw [hlen] at h0
   have h1 := hs.sub hij3
   rw [if_neg (show ¬ g.c = (0 : Int).toNat by show ¬ g.c = 0; omega)] at h1
   rw [if_neg (show ¬ j.toNat = 0 by omega)]
   exact ⟨⟨h1.1.ok, h1.1.lt, h1.1.av, h1.1.get, by rw [hlen]; exact Nat.le_refl _⟩, h1.2⟩
 refine Stp.of_run (v := .slice (if j.toNat = 0 then g.a else g.a.map (·.add (0 * T.z))) (j.toNat - 0) (j.toNat - 0)) (w' := w) ?_ ⟨.mk (if j.toNat = 0 then g.a else g.a.map (·.add (0 * T.z))) j.toNat (fun k => g.s ((0 : Int).toNat + k)), ?_, ?_⟩
 ·have hb : (Instr.sliceBounds true q.length g.c none (some (.int k j)) (some (.int k2 j))).run P w = .ok (0, j.toNat, j.toNat) w := by
   have q1 : j ≤ (g.c : Int) := by omega
   have q2 := hij.1
   have q3 : j ≤ max j 0 := by omega
   simp [Instr.sliceBounds, Instr.sliceBound, asIntOf, q1, q2, q3]
  simp only [execOp, H.ev (okc_nil a) hx, Instr.sliceAt, Sem.run_bind, run_underlying hu, Result.andThen_ok, Option.map_some, Option.map_none, H.ev (okc_nil a) hhi, H.ev (okc_nil a) hmx, Instr.slice, hb, hsz, Sem.run_pure]
 ·rw [hlen]; rfl
 ·rw [hlen]; exact hS.addIm hsl
end
end Go.V

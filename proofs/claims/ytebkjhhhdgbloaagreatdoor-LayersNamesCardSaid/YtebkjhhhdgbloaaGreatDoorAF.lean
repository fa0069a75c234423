/-
 'append' onto a slice that is read and has no room: a new row. A thing of the call's own that is lent. Nothing here is a statement of this claim.
-/
import Derived.Test.YtebkjhhhdgbloaaGreatDoorO
import Derived.ArgAppend
namespace Go.V
open Go Go.RowKit
section
variable {P : Program} {a : Act} {w : World} {n : Nat} {l : SF} {M : Av} {D : List Deferred}
end
section
variable {M : Av} {X : List Nat} {w0 w w' : World} {L R : List Ent}
theorem SH.lendH {α : Type} {E : TypeId} {T : Ty α} {l : List α} {g : Gh} (h : SH M X w0 (.own E T l g :: L) w) : S0 (AvL M L) [.im T l g] w := by
 have h2 := h.frz1
 have hf : ∀ b, b ∉ fpl [Ent.im T l g] := fun b hb => by simp [fpl, Ent.im] at hb
 refine ⟨Kp.refl _ _, by simp, fun b hb => absurd hb (hf b), fun b hb => absurd hb (hf b), fun b hm => ?_, fun e he => ?_⟩
 ·rcases hm with hm | hm
  ·exact Nat.lt_of_lt_of_le (h.mx b hm) h.kp.size
  ·obtain ⟨e, he, hb⟩ := mem_fpl.1 hm
   exact e.lt (h.ps e (List.mem_cons_of_mem _ he)) b hb
 ·rw [List.mem_singleton] at he
  subst he
  refine (Ent.im T l g).anti (h2.ps _ List.mem_cons_self) fun b hb => ?_
  rcases hb with (hb | hb) | hb
  ·exact .inl hb
  ·exact .inr (by simp only [fpl, List.mem_append]; exact .inr hb)
  ·exact absurd hb (hf b)
theorem SH.lendJ {α : Type} {E : TypeId} {T : Ty α} {l : List α} {g : Gh} (h : SH M X w0 (.own E T l g :: L) w) (h2 : SH (AvL M L) (fpl [.im T l g]) w R w') (hR : ∀ e ∈ R, ∀ M M' w, e.p M w → e.p M' w) : SH M X w0 (R ++ .own E T l g :: L) w' := by
 have hx : fpl [Ent.im T l g] = [] := rfl
 have hk : Kp [] w w' := hx ▸ h2.kp
 have hlt : ∀ {b : Nat}, b ∈ fpl (Ent.own E T l g :: L) → b < w.heap.size := fun hb => by
  obtain ⟨e, he, hb⟩ := mem_fpl.1 hb
  exact e.lt (h.ps e he) _ hb
 have hlo : ∀ {b : Nat}, b ∈ fpl R → w.heap.size ≤ b := fun hb => by
  rcases h2.lo _ hb with h1 | h1
  ·exact h1
  ·rw [hx] at h1; cases h1
 have hin : ∀ {b : Nat}, b ∈ fpl (R ++ .own E T l g :: L) → b ∈ fpl R ∨ b ∈ fpl (Ent.own E T l g :: L) := fun hb => by
  obtain ⟨e, he, hb⟩ := mem_fpl.1 hb
  rcases List.mem_append.1 he with he | he
  ·exact .inl (mem_fpl.2 ⟨e, he, hb⟩)
  ·exact .inr (mem_fpl.2 ⟨e, he, hb⟩)
 refine ⟨h.kp.trans hk (fun y hy => by cases hy), ?_, fun b hb => ?_, fun b hb => ?_, h.mx, fun e he => ?_⟩
 ·rw [List.pairwise_append]
  refine ⟨h2.nd, h.nd, fun e he f hf y hy hyf => ?_⟩
  have h3 := hlo (mem_fpl.2 ⟨e, he, hy⟩)
  have h4 := hlt (mem_fpl.2 ⟨f, hf, hyf⟩)
  omega
 ·rcases hin hb with hb | hb
  ·exact .inl (Nat.le_trans h.kp.size (hlo hb))
  ·exact h.lo b hb
 ·rcases hin hb with hb | hb
  ·exact fun hm => h2.nm b hb (.inl hm)
  ·exact h.nm b hb
 ·rcases List.mem_append.1 he with he | he
  ·exact hR e he _ _ _ (h2.ps e he)
  ·have hp := e.fresh (h.ps e he)
   refine e.anti (e.kp hp hk (fun b hb => by cases hb) (fun b hb hb' => by cases hb')) fun b hb => ?_
   rcases hb with hb | hb
   ·exact .inl (.inl hb)
   ·rcases hin hb with hb | hb
    ·exact .inr (hlo hb)
    ·exact .inl (.inr hb)
theorem free_own {α : Type} {E : TypeId} {T : Ty α} (hT : ∀ M M' w x g, T.inn M w x g → T.inn M' w x g) (l : List α) (g : Gh) : ∀ M M' w, (Ent.own E T l g).p M w → (Ent.own E T l g).p M' w := fun _ _ _ h => ⟨h.ow, fun i hi => hT _ _ _ _ _ (h.inn i hi)⟩
theorem free1 {e : Ent} (h : ∀ M M' w, e.p M w → e.p M' w) : ∀ e' ∈ [e], ∀ M M' w, e'.p M w → e'.p M' w := fun e' he => by
 rw [List.mem_singleton] at he
 subst he
 exact h
end
section
variable {P : Program} {a : Act} {w : World} {n : Nat} {l : SF} {M : Av} {D : List Deferred}
end
section
variable {P : Program} {a : Act} {w : World} {n : Nat} {l : SF} {M : Av} {D : List Deferred}
theorem o_subG {α : Type} {T : Ty α} {d : Nat} {t E ty : TypeId} {x lo hi mx : Operand} {pos : String} {after : Array Edge} {g : Gh} {q : List α} {n0 c0 : Nat} {a0 : Option Addr} {L : List Ent} {k k2 k3 : IntKind} (i j : Int) (H : FrG D n l a) (hS : S0 M L w) (hs : SlG T (AvL M L) w q g)
  (hx : ev l [] x = some (.slice a0 n0 c0)) (ha : g.a = a0) (hc : g.c = c0) (hn : q.length = n0) (hlo : ev l [] lo = some (.int k3 i)) (hhi : ev l [] hi = some (.int k j)) (hmx : ev l [] mx = some (.int k2 j))
  (hu : P.underlying t = some (.slice E)) (hz : (P.info? E).map (·.size) = some T.z) (hij : 0 ≤ i ∧ i ≤ j ∧ j ≤ ln q) :
  Stp P ⟨some d, .slice t x (some lo) (some hi) (some mx), ty, pos, after, none⟩ a w fun v w' => ∃ g' : Gh, v = .slice g'.a (subl q i j).length (subl q i j).length ∧ SH M (fpl L) w (.im T (subl q i j) (.mk g'.a (subl q i j).length g'.s) :: L) w' := by
 subst ha hc hn
 have hlen : (subl q i j).length = j.toNat - i.toNat := subl_len q hij
 have hsz : (sizeOf E).run P w = .ok T.z w := size_of_info hz
 have hlc := hs.1.cp
 have hj : j.toNat ≤ g.c := by unfold ln at hij; omega
 have hsl : SlG T (AvL M L) w (subl q i j) (.mk (if j.toNat - i.toNat = 0 then g.a else g.a.map (·.add (i.toNat * T.z))) (j.toNat - i.toNat) (fun k => g.s (i.toNat + k))) := by
  rcases Nat.eq_zero_or_pos (subl q i j).length with h0 | h0
  ·have := List.eq_nil_of_length_eq_zero h0
   rw [this]
   exact SlG.nil
  ·rw [hlen] at h0
   have h1 := hs.sub hij
   rw [if_neg (show ¬ g.c = i.toNat by omega)] at h1
   rw [if_neg (show ¬ j.toNat - i.toNat = 0 by omega)]
   exact ⟨⟨h1.1.ok, h1.1.lt, h1.1.av, h1.1.get, by rw [hlen]; exact Nat.le_refl _⟩, h1.2⟩
 refine Stp.of_run (v := .slice (if j.toNat - i.toNat = 0 then g.a else g.a.map (·.add (i.toNat * T.z))) (j.toNat - i.toNat) (j.toNat - i.toNat)) (w' := w) ?_ ⟨.mk (if j.toNat - i.toNat = 0 then g.a else g.a.map (·.add (i.toNat * T.z))) (j.toNat - i.toNat) (fun k => g.s (i.toNat + k)), ?_, ?_⟩
 ·have hb : (Instr.sliceBounds true q.length g.c (some (.int k3 i)) (some (.int k j)) (some (.int k2 j))).run P w = .ok (i.toNat, j.toNat, j.toNat) w := by
   have q1 : j ≤ (g.c : Int) := by omega
   have q2 : 0 ≤ j := by omega
   have q3 : j ≤ max j 0 := by omega
   have q4 : i ≤ max j 0 := by omega
   have q5 := hij.1
   simp [Instr.sliceBounds, Instr.sliceBound, asIntOf, q1, q2, q3, q4, q5]
  have hc' : (if j.toNat = i.toNat then g.a else g.a.map (·.add (i.toNat * T.z))) = (if j.toNat - i.toNat = 0 then g.a else g.a.map (·.add (i.toNat * T.z))) := by
   by_cases he : j.toNat = i.toNat
   ·rw [if_pos he, if_pos (by omega)]
   ·rw [if_neg he, if_neg (by omega)]
  rw [← hc']
  simp only [execOp, H.ev (okc_nil a) hx, Instr.sliceAt, Sem.run_bind, run_underlying hu, Result.andThen_ok, Option.map_some, H.ev (okc_nil a) hlo, H.ev (okc_nil a) hhi, H.ev (okc_nil a) hmx, Instr.slice, hb, hsz, Sem.run_pure]
 ·rw [hlen]; rfl
 ·rw [hlen]; exact hS.addIm hsl
end
theorem SlG.nl {α : Type} {T : Ty α} {M : Av} {w : World} {l : List α} {g : Gh} (h : SlG T M w l g) (hn : g.a = none) : l = [] := by
 cases l with
 | nil => rfl
 | cons x r =>
  have := h.1.ok (by simp)
  unfold oka at this
  rw [hn] at this
  cases this
end Go.V

/-
 A range over a function, over what lies in memory as a list of things. Nothing here is a statement of this claim.
-/
import Derived.Test.YtehlikdeobajcaaGreatDoorD
import Derived.RangeFuncFrom
import Derived.RangeFuncLeaves
import Derived.TacticsIn
import Derived.OrdersIn
namespace Go.V
open Go Go.RowKit
variable {D : List Deferred}
theorem w64_r {x : Int} (h : -9223372036854775808 ≤ x) (h' : x < 9223372036854775808) : w64 x = x := by
 show IntKind.i64.wrap x = x
 unfold IntKind.wrap
 simp only [IntKind.bits, IntKind.signed, Bool.true_and]
 split <;> rename_i hh <;> simp only [ge_iff_le, decide_eq_true_eq] at hh <;> omega
abbrev FW (r : Option Nat) : Fence := { Fence.wide with round := r }
theorem fw_steps {r : Option Nat} {P : Program} {m m' : Machine} : StepsIn (Machine.fenced P (FW r)) P m m' ↔ Steps P m m' :=
 ⟨StepsIn.steps, fun h => (StepsIn.of_steps h).mono fun m _ => fenced_wide P m⟩
theorem calls_w {r : Option Nat} {k : Nat} {P : Program} {f : FuncId} {args : Array Value} {w : World} {R : Ending → World → Prop} (h : Calls P f args w R) : CallsIn (FW r) k P f args w R :=
 (callsIn_wide (n := k)).2 h
theorem rows_w {r : Option Nat} {k : Nat} {P : Program} {row : String} {args : Array Value} {w : World} {R : Value → World → Prop} (h : Rows P row args w R) : RowsIn (FW r) k P row args w R :=
 fun c cs _ => let ⟨v, w', q, s⟩ := h c cs; ⟨v, w', q, fw_steps.2 s⟩
theorem oper_w {r : Option Nat} {k : Nat} {P : Program} {o : Oper} {a : Act} {w : World} {N : Act → World → Prop} {Q : Exit → Act → World → Prop} (hnd : ∀ c, o.op ≠ .defer c) (h : o.wp P a w N Q) : o.wpIn (FW r) k P a w N Q := by
 refine ⟨fun _ _ => trivial, ?_⟩
 rw [Oper.semAt_eq _ _ _ hnd]
 unfold Oper.wp at h
 generalize (execOp a.eval o).run P w = x at *
 cases x with
 | ok n' w' =>
  cases n' with
  | value v => exact h
  | skip => exact h
  | defer d => exact h
  | enter f args =>
   refine ⟨fun hd => (by cases hd), ?_⟩
   refine (calls_w h).mono ?_
   intro e w'' he
   cases e <;> exact he
  | row row args => exact ⟨fun hd => (by cases hd), rows_w h⟩
  | _ => exact h.elim
 | halt x w' =>
  cases x <;> first | exact h | exact h.elim
def ndB (l : List Oper) : Bool := l.all fun o => match o.op with
 | .defer _ => false
 | _ => true
theorem ndB_h {l : List Oper} (h : ndB l = true) {o : Oper} (ho : o ∈ l) : ∀ c, o.op ≠ .defer c := by
 intro c e
 have := List.all_eq_true.1 h o ho
 rw [e] at this
 cases this
theorem list_w {r : Option Nat} {k : Nat} {P : Program} {ops : Array Oper} {Q : Exit → Act → World → Prop} (hQ : ¬ LetsOut Q) : ∀ (l : List Oper), ndB l = true → ∀ a w, wpList P ops Q l a w → wpListIn (FW r) k P ops Q l a w
 | [], _, a, w, h => h
 | o :: rest, hn, a, w, h => by
  have hn2 : ndB rest = true := by
   unfold ndB at hn ⊢
   rw [List.all_cons, Bool.and_eq_true] at hn
   exact hn.2
  unfold wpList at h
  unfold wpListIn
  by_cases hw : Region.wanted o (yielded ops a.tmps) = true
  ·rw [if_pos hw] at h ⊢
   rcases h with h | ⟨_, h⟩
   ·exact Oper.wpIn_mono (list_w hQ rest hn2) (oper_w (ndB_h hn List.mem_cons_self) h)
   ·exact absurd h hQ
  ·rw [if_neg hw] at h ⊢
   exact ⟨fun _ _ => trivial, list_w hQ rest hn2 _ _ h⟩
theorem qs_out {N R : Post} {ES : List (Nat × Post)} : ¬ LetsOut (Qs N ES R) := fun ⟨_, _, h⟩ => h
theorem evb_listW {r : Option Nat} {k : Nat} {P : Program} {n : Nat} {all : List Oper} {Q : Exit → Act → World → Prop} : ∀ (m : Nat) (rest : List Oper) (os : List Value) (l l' : SF) (obs : List Ob) (a : Act) (w0 w : World),
  ndB rest = true → Below w0.heap.size w0 w →
  evb P n all rest m os l = some (l', obs) → allOb obs w0 → FrG D n l a → (∀ a' w', FrG D n l' a' → Below w0.heap.size w0 w' → wpListIn (FW r) k P all.toArray Q (rest.drop m) a' w') →
  wpListIn (FW r) k P all.toArray Q rest a w
 | 0, rest, os, l, l', obs, a, w0, w, _, hb, h, _, H, hK => by
  simp [evb] at h
  obtain ⟨rfl, rfl⟩ := h
  exact hK a w H hb
 | m + 1, [], os, l, l', obs, a, w0, w, _, hb, h, _, _, _ => by simp [evb] at h
 | m + 1, o :: rest, os, l, l', obs, a, w0, w, hn, hb, h, hob, H, hK => by
  have hnd := ndB_h hn List.mem_cons_self
  have hn2 : ndB rest = true := by
   unfold ndB at hn ⊢
   rw [List.all_cons, Bool.and_eq_true] at hn
   exact hn.2
  obtain ⟨dst, op, ty, pos, after, guard⟩ := o
  unfold evb at h
  split at h
  ·rename_i G hG
   split at h
   ·rename_i out hck hst
    split at h
    ·rename_i d hd
     split at h
     ·rename_i hbl
      simp only [Bool.and_eq_true] at hbl
      split at h
      ·rename_i l2 r2 hr
       simp only [Option.some.injEq, Prod.mk.injEq] at h
       obtain ⟨rfl, rfl⟩ := h
       obtain rfl : dst = some d := hd
       have hob2 : allOb r2 w0 ∧ ∀ ob, out.ob = some ob → ob w0 := by
        cases ho : out.ob with
        | none => rw [ho] at hob; exact ⟨hob, fun ob e => by cases e⟩
        | some ob => rw [ho] at hob; exact ⟨hob.2, fun ob' e => by cases e; exact hob.1⟩
       have hw := wanted_chain (dst := some d) (op := op) (ty := ty) (pos := pos) (after := after) H hG
       unfold wpListIn
       by_cases hc : okc a G
       ·rw [if_pos (hw.2 hc)]
        have hy : (⟨some d, op, ty, pos, after, guard⟩ : Oper).quiet P a (fun w'' => Below w0.heap.size w0 w'') (fun a' => FrG D n (upd l d G out.v) a') :=
         ⟨out.v, stepO_ok H hc hck hst hob2.2, H.put hbl.1 hbl.2 (fun _ => rfl) (fun x => absurd hc x)⟩
        exact oper_w hnd (Oper.wp_of_quiet (C := fun w'' => Below w0.heap.size w0 w'') hb (fun a' w' hw' H' => evb_listW m rest _ _ _ _ a' w0 w' hn2 hw' hr hob2.1 H' hK) hy)
       ·rw [if_neg (fun x => hc (hw.1 x))]
        exact ⟨fun _ _ => trivial, evb_listW m rest _ _ _ _ _ w0 w hn2 hb hr hob2.1 (H.put hbl.1 hbl.2 (fun x => absurd x hc) (fun _ => rfl)) hK⟩
      ·cases h
     ·cases h
    ·cases h
   ·cases h
  ·cases h
section
variable {r : Option Nat} {m : Nat} {P : Program} {N R : Post} {ES : List (Nat × Post)} {a : Act} {w : World} {n : Nat} {l : SF}
theorem r_seq {x y : Code} (h : x.wpIn (FW r) m P (Qs (fun a w => y.wpIn (FW r) m P (Qs N ES R) a w) ES R) a w) : (Code.seq x y).wpIn (FW r) m P (Qs N ES R) a w :=
 wpIn_seq (wpIn_mono h fun e a w q => by cases e <;> exact q)
theorem r_cut {x y : Code} (M : Post) (h : x.wpIn (FW r) m P (Qs M ES R) a w) (h2 : ∀ a w, M a w → y.wpIn (FW r) m P (Qs N ES R) a w) : (Code.seq x y).wpIn (FW r) m P (Qs N ES R) a w :=
 r_seq (wpIn_mono h fun e a w q => by cases e <;> first | exact h2 _ _ q | exact q)
theorem r_skip (h : N a w) : Code.skip.wpIn (FW r) m P (Qs N ES R) a w := wpIn_skip h
theorem r_ret (h : R a w) : Code.ret.wpIn (FW r) m P (Qs N ES R) a w := wpIn_ret h
theorem r_exit {i : Nat} {E : Post} (hi : lkE ES i = some E) (h : E a w) : (Code.exit i).wpIn (FW r) m P (Qs N ES R) a w :=
 wpIn_exit (by
  have e : Qs N ES R (.exit i) a w = (match lkE ES i with | some E => E a w | none => False) := rfl
  rw [e, hi]
  exact h)
theorem r_block {i : Nat} {c : Code} (h : c.wpIn (FW r) m P (Qs N ((i, N) :: ES) R) a w) : (Code.block i c).wpIn (FW r) m P (Qs N ES R) a w :=
 wpIn_block (wpIn_mono h fun e a w q => by
  cases e with
  | exit j =>
   simp only [Exit.inBlock]
   by_cases hj : j = i
   ·subst hj
    rw [if_pos rfl]
    have q' : N a w := by
     unfold Qs lkE at q
     simpa using q
    exact q'
   ·rw [if_neg hj]
    unfold Qs lkE at q
    have : Nat.beq i j = false := by
     cases hb : Nat.beq i j
     ·rfl
     ·exact absurd (Nat.eq_of_beq_eq_true hb).symm hj
    simp only [this, cond_false] at q
    exact q
  | _ => exact q)
theorem r_if {c : Operand} {x y : Code} {t : Bool} (H : FrG D n l a) (hc : ev l [] c = some (.bool t)) (h1 : t = true → x.wpIn (FW r) m P (Qs N ES R) a w) (h2 : t = false → y.wpIn (FW r) m P (Qs N ES R) a w) :
  (Code.cond c x y).wpIn (FW r) m P (Qs N ES R) a w :=
 wpIn_cond_split (H.ev (G := []) (fun _ h => by cases h) hc) h1 h2
theorem r_reg {id : Nat} {all : List Oper} (os : List Value) (ks : List Nat) (lk : SF) (obs : List Ob)
  (H : FrG D n l a) (hn : ndB all = true) (he : evk P n all os l ks = some (lk, obs)) (hob : allOb obs w)
  (hK : ∀ a' w', FrG D n lk a' → Below w.heap.size w w' → N a' w') : (Code.region id all.toArray false).wpIn (FW r) m P (Qs N ES R) a w := by
 obtain ⟨l', h1, h2⟩ := evk_spec he
 refine wpIn_region_lit (evb_listW all.length all os l l' obs a w w hn (Below.rfl' w) h1 hob H ?_)
 intro a' w' H' hw
 simp only [List.drop_length]
 exact hK a' w' (H'.keep h2) hw
theorem sr_reg {id : Nat} {all : List Oper} {y : Code} (os : List Value) (ks : List Nat) (lk : SF) (obs : List Ob)
  (H : FrG D n l a) (hn : ndB all = true) (he : evk P n all os l ks = some (lk, obs)) (hob : allOb obs w)
  (hK : ∀ a' w', FrG D n lk a' → Below w.heap.size w w' → y.wpIn (FW r) m P (Qs N ES R) a' w') : (Code.seq (.region id all.toArray false) y).wpIn (FW r) m P (Qs N ES R) a w := r_seq (r_reg os ks lk obs H hn he hob hK)
theorem rl_start {id : Nat} {all : List Oper} (hn : ndB all = true) (h : wpList P all.toArray (Qs N ES R) (all.drop 0) a w) : (Code.region id all.toArray false).wpIn (FW r) m P (Qs N ES R) a w :=
 wpIn_region_lit (list_w qs_out all hn a w (by simpa using h))
end
def Ncell (w : World) (b : Nat) : Prop := ∃ o : Obj, w.heap[b]? = some o ∧ o.isCells = false
theorem cell_nc {w : World} {b off : Nat} {v : Value} (h : w.cell? ⟨b, off, none⟩ = some v) : ¬ Ncell w b := by
 rintro ⟨o, ho, hc⟩
 obtain ⟨o', ho', hc'⟩ := cells_of_cell h
 dsimp only at ho'
 rw [ho] at ho'
 cases ho'
 rw [hc] at hc'
 cases hc'
def TyNc {α : Type} (T : Ty α) : Prop := 0 < T.z ∧ ∀ M w x g, T.inn M w x g → T.inn (fun b => M b ∨ Ncell w b) w x g
theorem SlC.nc {α : Type} {z : Nat} {enc : α → (Nat → Gh) → List Value} (hz : 0 < z) (hl : ∀ x g, (enc x g).length = z) {M : Av} {w : World} {l : List α} {g : Gh} (h : SlC z enc M w l g) : SlC z enc (fun b => M b ∨ Ncell w b) w l g :=
 ⟨h.ok, h.lt, fun h0 hm => by
  rcases hm with hm | hm
  ·exact h.av h0 hm
  ·have hlen : 0 < (enc l[0] (g.s 0)).length := by rw [hl]; exact hz
   have := h.get 0 h0 0 _ (List.getElem?_eq_getElem hlen)
   exact cell_nc this hm, h.get, h.cp⟩
theorem SlG.nc {α : Type} {T : Ty α} (hT : TyNc T) {M : Av} {w : World} {l : List α} {g : Gh} (h : SlG T M w l g) : SlG T (fun b => M b ∨ Ncell w b) w l g :=
 ⟨h.1.nc hT.1 T.len, fun i hi => hT.2 _ _ _ _ (h.2 i hi)⟩
theorem nc_I (k : IntKind) : TyNc (tI k) := ⟨Nat.one_pos, fun _ _ _ _ _ => trivial⟩
def Ent.Nc (e : Ent) : Prop := (∀ M w, e.p M w → e.p (fun b => M b ∨ Ncell w b) w) ∧ ∀ M w, e.p M w → ∀ b ∈ e.fp, ¬ Ncell w b
def NcL : List Ent → Prop
 | [] => True
 | e :: L => e.Nc ∧ NcL L
theorem NcL.mem : ∀ {L : List Ent}, NcL L → ∀ e ∈ L, e.Nc
 | _ :: L, h, e, he => by
  rcases List.mem_cons.1 he with rfl | he
  ·exact h.1
  ·exact NcL.mem h.2 e he
theorem nc_im {α : Type} {T : Ty α} (hT : TyNc T) (l : List α) (g : Gh) : (Ent.im T l g).Nc := ⟨fun _ _ h => SlG.nc hT h, fun _ _ _ b hb => by cases hb⟩
theorem blk_nc {w : World} {b : Nat} {cs : List Value} (h : Blk w b cs) : ¬ Ncell w b := by
 rintro ⟨o, ho, hc⟩
 obtain ⟨T, hT⟩ := h.get
 rw [hT] at ho
 cases ho
 cases hc
theorem nc_blk (b : Nat) (cs : List Value) : (Ent.blk b cs).Nc := ⟨fun _ _ h => h, fun _ _ h b' hb => by
 simp only [Ent.blk, List.mem_singleton] at hb
 subst hb
 exact blk_nc h⟩
theorem nc_ro (b : Nat) (cs : List Value) : (Ent.ro b cs).Nc := ⟨fun _ _ h => ⟨h.1, fun hm => by
 rcases hm with hm | hm
 ·exact h.2 hm
 ·exact blk_nc h.1 hm⟩, fun _ _ _ b hb => by cases hb⟩
def Ent.obj (b : Nat) (o : Obj) : Ent where
 fp := []
 p := fun M w => w.heap[b]? = some o ∧ ¬ M b
 kp := fun h k hM _ => ⟨(k.block _ (Array.getElem?_eq_some_iff.1 h.1).1 (fun hx => h.2 (hM _ hx))).trans h.1, h.2⟩
 anti := fun h hM => ⟨h.1, fun hb => h.2 (hM _ hb)⟩
 fresh := fun h => ⟨h.1, fun hb => by
  rcases hb with hb | hb
  ·exact h.2 hb
  ·have := (Array.getElem?_eq_some_iff.1 h.1).1; omega⟩
 lt := fun _ b hb => by cases hb
section
variable {M : Av} {X : List Nat} {w0 w w' : World} {L L' : List Ent}
theorem fpl_nc (hn : NcL L) (h : SH M X w0 L w) : ∀ b ∈ fpl L, ¬ Ncell w b := by
 intro b hb
 obtain ⟨e, he, hb⟩ := mem_fpl.1 hb
 exact (hn.mem e he).2 _ _ (h.ps e he) b hb
theorem SH.objs (h : SH M X w0 L w) (hn : NcL L) {b : Nat} {o : Obj} (o' : Obj) (hb : w.heap[b]? = some o) (ho : o.isCells = false) (h0 : w0.heap.size ≤ b) : SH M X w0 L (w.putObj b o') := by
 have hk : Kp [b] w (w.putObj b o') := ⟨rfl, rfl, rfl, by simp, fun k _ hk => World.putObj_heap_other (fun e => hk (by simp [e]))⟩
 refine ⟨h.kp.trans hk (fun y hy => by simp at hy; subst hy; exact .inr h0), h.nd, h.lo, h.nm, h.mx, fun e he => ?_⟩
 have h1 := (hn.mem e he).1 _ _ (h.ps e he)
 refine e.anti (e.kp h1 hk (fun y hy => by simp at hy; subst hy; exact .inr ⟨o, hb, ho⟩) (fun y hy hx => ?_)) (fun y hy => .inl hy)
 simp at hx
 subst hx
 exact (hn.mem e he).2 _ _ (h.ps e he) _ hy ⟨o, hb, ho⟩
theorem SH.s0 (h : SH M X w0 L w) : S0 M L w :=
 ⟨Kp.refl _ _, h.nd, fun _ hb => .inr hb, h.nm, fun b hm => Nat.lt_of_lt_of_le (h.mx b hm) h.kp.size, h.ps⟩
theorem SH.comp (h : SH M X w0 L w) (h2 : SH M (fpl L) w L' w') : SH M X w0 L' w' := by
 refine ⟨h.kp.trans h2.kp (fun y hy => ?_), h2.nd, fun b hb => ?_, h2.nm, h.mx, h2.ps⟩
 ·rcases h.lo y hy with h1 | h1
  ·exact .inr h1
  ·exact .inl h1
 ·rcases h2.lo b hb with h1 | h1
  ·exact .inl (Nat.le_trans h.kp.size h1)
  ·exact h.lo b h1
theorem SH.ro1 {b : Nat} {cs : List Value} (h : SH M X w0 (.blk b cs :: L) w) : SH M X w0 (.ro b cs :: L) w := by
 have hsub : ∀ {x : Nat}, x ∈ fpl L → x ∈ fpl (Ent.blk b cs :: L) := fun hb => by simp only [fpl, List.mem_append]; exact .inr hb
 have hf : fpl (Ent.ro b cs :: L) = fpl L := rfl
 have hnd := h.nd
 rw [List.pairwise_cons] at hnd
 refine ⟨h.kp, ?_, fun x hx => h.lo x (hsub (hf ▸ hx)), fun x hx => h.nm x (hsub (hf ▸ hx)), h.mx, fun e he => ?_⟩
 ·rw [List.pairwise_cons]
  exact ⟨fun f _ y hy => (by cases hy), hnd.2⟩
 ·rcases List.mem_cons.1 he with rfl | he
  ·refine ⟨h.bk 0 rfl, fun hm => ?_⟩
   rcases hm with hm | hm
   ·exact h.nm b (by simp [fpl, Ent.blk]) hm
   ·rw [hf] at hm
    obtain ⟨e, he, hbe⟩ := mem_fpl.1 hm
    exact hnd.1 e he b (by simp [Ent.blk]) hbe
  ·exact e.anti (h.ps e (List.mem_cons_of_mem _ he)) fun x hx => by
    rcases hx with hx | hx
    ·exact .inl hx
    ·exact .inr (hsub (hf ▸ hx))
end
abbrev mk (b : Nat) : Deferred := { target := .collected b, args := #[] }
abbrev dEnd : Obj := .deferred (some [])
def SeqI (P : Program) (gf : FuncId) (lb : List Value) (encs : Nat → List Value) (cnt : Nat) (RD : World → Prop) (_w : World) : Prop :=
 ∀ (l : Nat) (J : Nat → World → Prop) (Jx : World → Prop) (W : World), (∀ k A, J k A → RD A) → (∀ k A B, J k A → Below A.heap.size A B → J k B) → (∀ A B, Jx A → Below A.heap.size A B → Jx B) →
  (∀ k A, k < cnt → J k A → YieldAt (FW none) 0 P l ⟨encs k⟩ A fun e B => (e = .returned (.bool true) ∧ J (k + 1) B) ∨ (e = .returned (.bool false) ∧ Jx B)) → J 0 W →
  CallsIn (FW none) 0 P gf ⟨.func (.yield l) #[] #[] :: lb⟩ W fun e B => (∃ v, e = .returned v) ∧ (J cnt B ∨ Jx B)
theorem w_range {P : Program} {N' R : Post} {ES : List (Nat × Post)} {a : Act} {w : World} {n : Nat} {fr : SF} {g : Operand} {ps : Array Tmp} {assign body : Code} {M : Av} {X : List Nat} {w0 : World}
  {β γ δ : Type} (C : Nat → β → Prop) (LL : β → List Ent) (CR : γ → Prop) (LR : γ → List Ent) (fr0 : Nat → SF) (fr1 : Nat → β → δ → SF) (L1 : Nat → β → δ → List Ent)
  (gf : FuncId) (lb : List Value) (encs : Nat → List Value) (cnt : Nat) (RD : World → Prop)
  (H : Fr n fr a) (hg : ev fr [] g = some (.func (.func gf) ⟨[]⟩ ⟨lb⟩)) (eg : ∀ args w, (callFunc gf args).run P w = .ok (.enter gf args) w)
  (s0 : β) (h0 : C 0 s0) (hS : SH M X w0 (LL s0) w) (hNL : ∀ s, NcL (LL s)) (hN1 : ∀ k s d, NcL (L1 k s d)) (hNR : ∀ y, NcL (LR y))
  (hseq : SeqI P gf lb encs cnt RD w) (hps : ∀ k, (encs k).length = ps.size) (hRD : ∀ s W, SH M X w0 (LL s) W → RD W)
  (hfr : ∀ k a', k < cnt → a'.defers = [] → a'.tmps = (ps.zip ⟨encs k⟩).foldl (fun t (p, v) => t.setIfInBounds p v) a.tmps → Fr n (fr0 k) a')
  (hass : ∀ (l k : Nat) s W a', k < cnt → C k s → Fr n (fr0 k) a' → S0 M (LL s) W → assign.wpIn (FW (some l)) 0 P (Qs (fun a1 W1 => ∃ d, Fr n (fr1 k s d) a1 ∧ SH M (fpl (LL s)) W (L1 k s d) W1) [] (fun _ _ => False)) a' W)
  (hbod : ∀ (l k : Nat) s d W a', k < cnt → C k s → Fr n (fr1 k s d) a' → S0 M (L1 k s d) W →
   body.wpIn (FW (some l)) 0 P (Qs (fun _ W1 => ∃ s', C (k + 1) s' ∧ SH M (fpl (L1 k s d)) W (LL s') W1) [] (fun _ W1 => ∃ y, CR y ∧ SH M (fpl (L1 k s d)) W (LR y) W1)) a' W)
  (hdone : ∀ s b a' w', w0.heap.size ≤ b → C cnt s → FrG [mk b] n fr a' → SH M X w0 (.obj b dEnd :: LL s) w' → N' a' w')
  (hret : ∀ y b a' w', w0.heap.size ≤ b → CR y → FrG [mk b] n fr a' → SH M X w0 (.obj b dEnd :: LR y) w' → R a' w') :
  (Code.rangeFunc g ps assign body).wp P (Qs N' ES R) a w := by
 refine (wpIn_wide (n := 0)).1 ?_
 refine wpIn_rangeFunc (F := FW none) ?_
 intro fn hfn
 have hw0 := hS.kp.size
 obtain ⟨rec, hrec⟩ : ∃ rec : LoopState → Option Code → Loop, rec = fun st pe => { state := st, pending := pe, fn, tmps := a.tmps, params := ps, assign, body, defers := w.heap.size } := ⟨_, rfl⟩
 obtain ⟨W1, hW1⟩ : ∃ W1, (w.alloc (.deferred (some []))).alloc (.loop (rec .ready none)) = W1 := ⟨_, rfl⟩
 have hL1 : W1.heap[w.heap.size + 1]? = some (.loop (rec .ready none)) := by
  rw [← hW1]; have := World.alloc_heap_new (w.alloc (.deferred (some []))) (.loop (rec .ready none)); rwa [World.size_alloc] at this
 have hK1 : W1.heap[w.heap.size]? = some dEnd := by
  rw [← hW1]; exact (Below.heap_alloc _ _ _ (by simp)).trans (World.alloc_heap_new w _)
 have hb1 : Below w.heap.size w W1 := by
  rw [← hW1]; exact ((Below.refl _ w).alloc (Nat.le_refl _) _).alloc (by simp) _
 have hS1 : SH M X w0 (LL s0) W1 := hS.below hb1
 have hlow : ∀ {L : List Ent} {W : World} {b : Nat}, NcL L → SH M X w0 L W → W.heap[b]? = some dEnd → w.heap.size ≤ b → SH M X w0 (.obj b dEnd :: L) W := by
  intro L W b hn hs hk hb
  refine hs.add rfl ⟨hk, fun hm => ?_⟩
  rcases hm with hm | hm
  ·have := hs.mx b hm; omega
  ·exact fpl_nc hn hs b hm ⟨_, hk, rfl⟩
 have hfrM : ∀ b, FrG [mk b] n fr { a with defers := [mk b] ++ a.defers } := fun b => ⟨by show [mk b] ++ a.defers = _; rw [H.1]; rfl, H.2.1, H.2.2⟩
 refine ⟨w.heap.size + 1, [mk w.heap.size], W1, { target := .fn (.func gf) ⟨lb⟩, args := #[.func (.yield (w.heap.size + 1)) #[] #[]] }, W1, gf,
  ⟨.func (.yield (w.heap.size + 1)) #[] #[] :: lb⟩, W1, ?_, ?_, fun _ _ => trivial, ?_, fun h => (by cases h), ?_⟩
 ·rw [← hW1, hrec]; exact run_enterLoop_outer _ _ _ _ _
 ·have hga : a.eval g = .func (.func gf) ⟨[]⟩ ⟨lb⟩ := H.ev (G := []) (fun _ h => by cases h) hg
  simp only [resolve, hga]
  simp [go_sem]
 ·simp [invoke, go_sem, eg]
 ·refine (hseq (w.heap.size + 1)
   (fun k W => (∃ s, C k s ∧ SH M X w0 (LL s) W) ∧ W.heap[w.heap.size + 1]? = some (.loop (rec .ready none)) ∧ W.heap[w.heap.size]? = some dEnd)
   (fun W => (∃ y, CR y ∧ SH M X w0 (LR y) W) ∧ W.heap[w.heap.size + 1]? = some (.loop (rec .done (some .ret))) ∧ W.heap[w.heap.size]? = some dEnd)
   W1 (fun k A h => by obtain ⟨⟨s, _, hs⟩, _⟩ := h; exact hRD s A hs) ?_ ?_ ?_ ⟨⟨s0, h0, hS1⟩, hL1, hK1⟩).mono ?_
  ·rintro k A B ⟨⟨s, hc, hs⟩, h2, h3⟩ hb
   exact ⟨⟨s, hc, hs.below hb⟩, (hb.block _ (Array.getElem?_eq_some_iff.1 h2).1).trans h2, (hb.block _ (Array.getElem?_eq_some_iff.1 h3).1).trans h3⟩
  ·rintro A B ⟨⟨y, hc, hs⟩, h2, h3⟩ hb
   exact ⟨⟨y, hc, hs.below hb⟩, (hb.block _ (Array.getElem?_eq_some_iff.1 h2).1).trans h2, (hb.block _ (Array.getElem?_eq_some_iff.1 h3).1).trans h3⟩
  ·
   rintro k W hk ⟨⟨s, hc, hs⟩, hl, hd⟩
   have hy := run_yield (P := P) (args := ⟨encs k⟩) hl (by rw [hrec]; exact hps k)
   rw [hrec] at hy
   have hne : w.heap.size ≠ w.heap.size + 1 := by omega
   refine ⟨fn, _, assign, body, hy, roundIn_of_wpIn hfn (wpIn_mono (hass _ k s W _ hk hc (hfr k _ hk rfl rfl) hs.s0) ?_)⟩
   rintro e a1 V1 hq
   cases e with
   | normal =>
    obtain ⟨d, H1, hs1⟩ := hq
    have hkeep : ∀ {b : Nat} {o : Obj}, W.heap[b]? = some o → o.isCells = false → V1.heap[b]? = some o := fun hb ho =>
     (hs1.kp.block _ (Array.getElem?_eq_some_iff.1 hb).1 (fun hx => fpl_nc (hNL s) hs _ hx ⟨_, hb, ho⟩)).trans hb
    have hl1 := hkeep hl rfl
    have hd1 := hkeep hd rfl
    have hs2 := hs.comp hs1
    refine ⟨_, run_beginRound hl1 (by rw [hrec]), ?_⟩
    have hs3 := hs2.objs (hN1 k s d) (.loop { rec .ready none with state := .busy }) hl1 rfl (by omega)
    generalize hV2 : V1.putObj (w.heap.size + 1) (.loop { rec .ready none with state := .busy }) = V2 at hs3
    have hl2 : V2.heap[w.heap.size + 1]? = some (.loop { rec .ready none with state := .busy }) := by rw [← hV2]; exact World.putObj_heap_same (Array.getElem?_eq_some_iff.1 hl1).1
    have hd2 : V2.heap[w.heap.size]? = some dEnd := by rw [← hV2]; exact (World.putObj_heap_other hne).trans hd1
    refine wpIn_mono (hbod _ k s d V2 a1 hk hc H1 hs3.s0) ?_
    have fin : ∀ (jump : Option Code) (L : List Ent) (W3 : World), NcL L → SH M (fpl (L1 k s d)) V2 L W3 →
      (Instr.endRound (w.heap.size + 1) jump).run P W3 = .ok (.bool jump.isNone) (W3.putObj (w.heap.size + 1) (.loop (rec (if jump.isNone then .ready else .done) jump))) ∧
      SH M X w0 L (W3.putObj (w.heap.size + 1) (.loop (rec (if jump.isNone then .ready else .done) jump))) ∧
      (W3.putObj (w.heap.size + 1) (.loop (rec (if jump.isNone then .ready else .done) jump))).heap[w.heap.size + 1]? = some (.loop (rec (if jump.isNone then .ready else .done) jump)) ∧
      (W3.putObj (w.heap.size + 1) (.loop (rec (if jump.isNone then .ready else .done) jump))).heap[w.heap.size]? = some dEnd := fun jump L W3 hnL hq3 => by
     have hkeep3 : ∀ {b : Nat} {o : Obj}, V2.heap[b]? = some o → o.isCells = false → W3.heap[b]? = some o := fun hb ho =>
      (hq3.kp.block _ (Array.getElem?_eq_some_iff.1 hb).1 (fun hx => fpl_nc (hN1 k s d) hs3 _ hx ⟨_, hb, ho⟩)).trans hb
     have hl3 := hkeep3 hl2 rfl
     have hd3 := hkeep3 hd2 rfl
     have hr := run_endRound (P := P) jump hl3
     have hs4 := (hs3.comp hq3).objs hnL (.loop (rec (if jump.isNone then .ready else .done) jump)) hl3 rfl (by omega)
     rw [hrec] at hr hs4 ⊢
     exact ⟨hr, hs4, World.putObj_heap_same (Array.getElem?_eq_some_iff.1 hl3).1, (World.putObj_heap_other hne).trans hd3⟩
    rintro e a3 W3 hp
    cases e with
    | normal =>
     obtain ⟨s', hc', hs'⟩ := hp
     obtain ⟨hr, h4, h5, h6⟩ := fin none _ W3 (hNL s') hs'
     exact ⟨_, _, hr, .inl ⟨rfl, ⟨s', hc', h4⟩, h5, h6⟩⟩
    | ret =>
     obtain ⟨y, hc', hs'⟩ := hp
     obtain ⟨hr, h4, h5, h6⟩ := fin (some .ret) _ W3 (hNR y) hs'
     exact ⟨_, _, hr, .inr ⟨rfl, ⟨y, hc', h4⟩, h5, h6⟩⟩
    | exit id => exact hp.elim
    | goto t => exact hp.elim
    | panic ch => exact hp.elim
    | outgrown => exact hp.elim
   | exit id => exact hq.elim
   | goto t => exact hq.elim
   | ret => exact hq.elim
   | panic ch => exact hq.elim
   | outgrown => exact hq.elim
  ·
   rintro e W2 ⟨⟨v, rfl⟩, (⟨⟨s, hc, hs⟩, hl, hd⟩ | ⟨⟨y, hc, hs⟩, hl, hd⟩)⟩
   ·refine ⟨none, _, by have := run_endLoop (P := P) hl (by rw [hrec]; simp); rw [hrec] at this; exact this, ?_⟩
    have hne : w.heap.size ≠ w.heap.size + 1 := by omega
    have h1 := hs.objs (hNL s) (.loop { rec .ready none with state := .exhausted }) hl rfl (by omega)
    rw [hrec] at h1
    exact hdone s w.heap.size _ _ hw0 hc (hfrM _) (hlow (hNL s) h1 ((World.putObj_heap_other hne).trans hd) (Nat.le_refl _))
   ·refine ⟨some .ret, _, by have := run_endLoop (P := P) hl (by rw [hrec]; simp); rw [hrec] at this; exact this, ?_⟩
    have hne : w.heap.size ≠ w.heap.size + 1 := by omega
    have h1 := hs.objs (hNR y) (.loop { rec .done (some .ret) with state := .exhausted }) hl rfl (by omega)
    rw [hrec] at h1
    exact r_ret (r := none) (hret y w.heap.size _ _ hw0 hc (hfrM _) (hlow (hNR y) h1 ((World.putObj_heap_other hne).trans hd) (Nat.le_refl _)))
theorem entry_fr {fn : Func} {args : List Value} {n : Nat} (hn : fn.ntmps = n) (hl : Nat.ble args.length n = true) : Fr n (argsSF args 0) { tmps := ⟨args⟩ ++ Array.replicate (fn.ntmps - args.length) undef, defers := [] } := by
 have hl : args.length ≤ n := by simpa using hl
 refine ⟨rfl, by simp [hn]; omega, ?_⟩
 intro e he
 obtain ⟨h1, h2, h3⟩ := argsSF_get he
 rw [h1]
 refine ⟨fun _ => ?_, fun x => absurd (fun p hp => by cases hp) x⟩
 simp only [Nat.sub_zero] at h3
 have hlt : e.1 < args.length := by
  rcases Nat.lt_or_ge e.1 args.length with h | h
  ·exact h
  ·rw [List.getElem?_eq_none h] at h3; cases h3
 rw [Array.getElem?_append_left (by simpa using hlt)]
 simpa using h3
theorem calls_entryW {P : Program} {f : FuncId} {fn : Func} {c : Code} {args : List Value} {w : World} {R : Ending → World → Prop} {n k : Nat}
  (hf : P.funcs[f]? = some fn) (hb : fn.body = some c) (hn : fn.ntmps = n) (hl : Nat.ble args.length n = true)
  (h : ∀ a, Fr n (argsSF args 0) a → c.wpIn (FW none) k P (Qs (Rp P fn R) [] (Rp P fn R)) a w) : CallsIn (FW none) k P f ⟨args⟩ w R := by
 refine callsIn_of_wp hf hb trivial (wpIn_mono (h _ (entry_fr hn hl)) ?_)
 intro e a w q
 cases e with
 | normal => exact q
 | ret => exact q
 | exit i => exact q.elim
 | goto i => exact q.elim
 | panic i => exact q.elim
 | outgrown => exact q.elim
def RpM (P : Program) (fn : Func) (R : Ending → World → Prop) : Post := fun a w => Rp P fn R a w ∨
 ∃ b v w', a.defers = [mk b] ∧ w.heap[b]? = some dEnd ∧ w' = w.putObj b (.deferred none) ∧ (results fn a.tmps).run P w' = .ok v w' ∧ R (.returned v) w'
theorem calls_entryM {P : Program} {f : FuncId} {fn : Func} {c : Code} {args : List Value} {w : World} {R : Ending → World → Prop} {n : Nat}
  (hf : P.funcs[f]? = some fn) (hb : fn.body = some c) (hn : fn.ntmps = n) (hl : Nat.ble args.length n = true)
  (h : ∀ a, Fr n (argsSF args 0) a → c.wp P (Qs (RpM P fn R) [] (RpM P fn R)) a w) : Calls P f ⟨args⟩ w R := by
 refine (callsIn_wide (n := 0)).1 (callsIn_of_wp_marks (F := Fence.wide) hf hb trivial ((wpIn_wide (n := 0)).2 (wp_mono (h _ (entry_fr hn hl)) ?_)))
 have key : ∀ a w, RpM P fn R a w → LeavesInM Fence.wide 0 P fn a.tmps R a.defers .returning w := by
  rintro a w (⟨hd, v, hr, hR⟩ | ⟨b, v, w', hd, hb, rfl, hr, hR⟩)
  ·rw [hd]; exact ⟨v, hr, hR⟩
  ·rw [hd]
   exact ⟨fun h => (by cases h), .inl ⟨b, _, rfl, run_takeDeferred hb, v, hr, hR⟩⟩
 intro e a w q
 cases e with
 | normal => exact key a w q
 | ret => exact key a w q
 | exit i => exact q.elim
 | goto i => exact q.elim
 | panic i => exact q.elim
 | outgrown => exact q.elim
theorem SH.tail0 {M : Av} {X : List Nat} {w0 w : World} {L : List Ent} {e : Ent} (h : SH M X w0 (e :: L) w) (hf : e.fp = []) : SH M X w0 L w := by
 have hfe : fpl (e :: L) = fpl L := by simp [fpl, hf]
 have hav : AvL M (e :: L) = AvL M L := by unfold AvL; rw [hfe]
 have hnd := h.nd
 rw [List.pairwise_cons] at hnd
 exact ⟨h.kp, hnd.2, fun b hb => h.lo b (by rw [hfe]; exact hb), fun b hb => h.nm b (by rw [hfe]; exact hb), h.mx, fun e' he => by
  have := h.ps e' (List.mem_cons_of_mem _ he)
  rwa [hav] at this⟩
theorem retM {P : Program} {fn : Func} {R : Ending → World → Prop} {n : Nat} {l : SF} {a : Act} {M : Av} {X : List Nat} {w0 w : World} {L : List Ent} {b : Nat} (H : FrG [mk b] n l a) (hb : w0.heap.size ≤ b)
  (hS : SH M X w0 (.obj b dEnd :: L) w) (hN : NcL L) (h : ∀ a' w', Fr n l a' → SH M X w0 L w' → Rp P fn R a' w') : RpM P fn R a w := by
 have hk : w.heap[b]? = some dEnd := (hS.at 0 rfl).1
 have hS2 := (hS.tail0 rfl).objs hN (.deferred none) hk rfl hb
 obtain ⟨_, v, hr, hR⟩ := h { a with defers := [] } _ ⟨rfl, H.2.1, H.2.2⟩ hS2
 exact .inr ⟨b, v, _, H.1, hk, rfl, hr, hR⟩
theorem RpM.of {P : Program} {fn : Func} {R : Ending → World → Prop} {a : Act} {w : World} (h : Rp P fn R a w) : RpM P fn R a w := .inl h
theorem fr_two {n : Nat} {l : SF} {a a' : Act} (H : FrG D n l a) {p q : Nat} {u v : Value} (hl : (l.all fun e => e.2.1.isEmpty && (!(Nat.beq e.1 p) && !(Nat.beq e.1 q))) = true) (hp : Nat.blt p n = true) (hq : Nat.blt q n = true) (hpq : Nat.beq p q = false)
  (hd : a'.defers = []) (ht : a'.tmps = (a.tmps.setIfInBounds p u).setIfInBounds q v) : Fr n ((p, [], u) :: (q, [], v) :: l) a' := by
 have hp' : p < a.tmps.size := by rw [H.2.1]; simpa [Nat.blt, Nat.lt_iff_add_one_le] using hp
 have hq' : q < a.tmps.size := by rw [H.2.1]; simpa [Nat.blt, Nat.lt_iff_add_one_le] using hq
 have hne : p ≠ q := Nat.ne_of_beq_eq_false hpq
 refine ⟨hd, by rw [ht]; simp [H.2.1], ?_⟩
 intro e he
 rcases List.mem_cons.1 he with rfl | he
 ·refine ⟨fun _ => ?_, fun x => absurd (okc_nil a') x⟩
  rw [ht]
  dsimp only
  rw [Array.getElem?_setIfInBounds_ne (Ne.symm hne), Array.getElem?_setIfInBounds_self_of_lt hp']
 ·rcases List.mem_cons.1 he with rfl | he
  ·refine ⟨fun _ => ?_, fun x => absurd (okc_nil a') x⟩
   rw [ht]
   dsimp only
   rw [Array.getElem?_setIfInBounds_self_of_lt (by simpa using hq')]
  ·have h1 := List.all_eq_true.1 hl e he
   simp only [Bool.and_eq_true, List.isEmpty_iff, Bool.not_eq_true'] at h1
   obtain ⟨h1, h2, h3⟩ := h1
   rw [h1]
   refine ⟨fun _ => ?_, fun x => absurd (okc_nil a') x⟩
   have := (H.2.2 e he).1 (by rw [h1]; exact okc_nil a)
   rw [ht, Array.getElem?_setIfInBounds_ne (Ne.symm (Nat.ne_of_beq_eq_false h3)), Array.getElem?_setIfInBounds_ne (Ne.symm (Nat.ne_of_beq_eq_false h2))]
   exact this
theorem zip_two {p q : Nat} {u v : Value} (t : Array Value) : ((#[p, q] : Array Tmp).zip ⟨[u, v]⟩).foldl (fun t (p, v) => t.setIfInBounds p v) t = (t.setIfInBounds p u).setIfInBounds q v := by
 simp
section
variable {r : Option Nat} {m : Nat} {P : Program} {N R : Post} {ES : List (Nat × Post)} {a : Act} {w : World} {n : Nat} {l : SF}
theorem r_loop {c : Code} (I : Nat → Post) (h0 : ∃ k, I k a w)
  (round : ∀ k a w, I k a w → c.wpIn (FW r) m P (Qs (fun a' w' => ∃ k', k' < k ∧ I k' a' w') ES R) a w) : (Code.loop c).wpIn (FW r) m P (Qs N ES R) a w := by
 intro b q cs hro hb hr
 have key : ∀ k a w, I k a w →
   ∃ e a' w', Qs N ES R e a' w' ∧ ArrivesIn (Machine.fenced P (FW r)) P (lone (b.atR a (.code c :: .inLoop c :: q)) cs w) b q cs e a' w' := by
  intro k
  induction k using Nat.strongRecOn with
  | _ k ih =>
   intro a w hI
   obtain ⟨e, a₁, w₁, hq, harr⟩ := round k a w hI b (.inLoop c :: q) cs hro hb hr
   cases e with
   | normal =>
    obtain ⟨k', hlt, hI₁⟩ := hq
    obtain ⟨e₂, a₂, w₂, hq₂, harr₂⟩ := ih k' hlt a₁ w₁ hI₁
    exact ⟨e₂, a₂, w₂, hq₂, .of_steps (StepsIn.trans harr (.one (fenced_calm hb hr rfl) stepR_inLoop)) harr₂⟩
   | exit id => exact ⟨.exit id, a₁, w₁, hq, .pass (x := .inLoop c) rfl (fun _ _ => .inl (by simp)) harr⟩
   | goto l => exact ⟨.goto l, a₁, w₁, hq, .pass (x := .inLoop c) rfl (fun _ _ => .inl (by simp)) harr⟩
   | ret => exact ⟨.ret, a₁, w₁, hq, .pass (x := .inLoop c) rfl (fun _ _ => .inl (by simp)) harr⟩
   | panic ch => exact ⟨.panic ch, a₁, w₁, hq, .pass (x := .inLoop c) rfl (fun _ _ => .inl (by simp)) harr⟩
   | outgrown => exact ⟨.outgrown, a₁, w₁, hq, .pass (x := .inLoop c) rfl (fun _ _ => .inl (by simp)) harr⟩
 obtain ⟨k, hk⟩ := h0
 obtain ⟨e, a', w', hq, harr⟩ := key k a w hk
 exact ⟨e, a', w', hq, .of_steps (.one (fenced_calm hb hr rfl) stepR_loop) harr⟩
theorem rl_reg {id : Nat} {all : List Oper} {Q : Exit → Act → World → Prop} (h : wpListIn (FW r) m P all.toArray Q (all.drop 0) a w) : (Code.region id all.toArray false).wpIn (FW r) m P Q a w := wpIn_region_lit (by simpa using h)
theorem rl_end {all : List Oper} {i : Nat} (hi : Nat.ble all.length i = true) (h : N a w) : wpListIn (FW r) m P all.toArray (Qs N ES R) (all.drop i) a w := by
 have : all.length ≤ i := by simpa using hi
 rw [List.drop_eq_nil_of_le this]
 exact h
theorem rl_batch {all : List Oper} {Q : Exit → Act → World → Prop} (i j : Nat) (os : List Value) (ks : List Nat) (lk : SF) (obs : List Ob) (H : FrG D n l a) (hn : ndB (all.drop i) = true) (hij : Nat.ble i j = true) (he : evj P n all i j os l ks = some (lk, obs)) (hob : allOb obs w)
  (hK : ∀ a' w', FrG D n lk a' → Below w.heap.size w w' → wpListIn (FW r) m P all.toArray Q (all.drop j) a' w') : wpListIn (FW r) m P all.toArray Q (all.drop i) a w := by
 unfold evj at he
 split at he
 ·rename_i l' obs' h1
  split at he
  ·rename_i lk' h2
   simp only [Option.some.injEq, Prod.mk.injEq] at he
   obtain ⟨rfl, rfl⟩ := he
   refine evb_listW (j - i) (all.drop i) os l l' _ a w w hn (Below.rfl' w) h1 hob H ?_
   intro a' w' H' hb
   have hij' : i ≤ j := by simpa using hij
   rw [List.drop_drop, Nat.add_sub_cancel' hij']
   exact hK a' w' (H'.keep h2) hb
  ·cases he
 ·cases he
theorem y_call {f : Operand} {xs : Array Operand} {ts : Array TypeId} {d i : Nat} {ty : TypeId} {pos : String} {after : Array Edge} {all : List Oper} {lr : Nat} {K : Ending → World → Prop} {Q : Exit → Act → World → Prop} (ks : List Nat) (lk : SF) (vs : List Value)
  (H : Fr n l a) (ho : all[i]? = some ⟨some d, .call ⟨.value f, xs, ts⟩, ty, pos, after, none⟩) (hd : Nat.blt d n = true) (hf : ev l [] f = some (.func (.yield lr) ⟨[]⟩ ⟨[]⟩)) (hx : evs l [] xs.toList = some vs)
  (hk : ∀ v, keep (upd l d [] v) ks = some ((d, [], v) :: lk)) (hy : YieldAt (FW none) 0 P lr ⟨vs⟩ w K)
  (hK : ∀ e w', K e w' → ∃ v, e = .returned v ∧ ∀ a', Fr n ((d, [], v) :: lk) a' → wpListIn (FW none) 0 P all.toArray Q (all.drop (i + 1)) a' w') :
  wpListIn (FW none) 0 P all.toArray Q (all.drop i) a w := by
 obtain ⟨fn, tmps, assign, body, hrun, hR⟩ := hy
 have hl : i < all.length := (List.getElem?_eq_some_iff.1 ho).1
 have hal : all[i] = ⟨some d, .call ⟨.value f, xs, ts⟩, ty, pos, after, none⟩ := by
  rw [List.getElem?_eq_getElem hl] at ho
  exact Option.some.inj ho
 rw [List.drop_eq_getElem_cons hl, hal]
 refine wpListIn_plain rfl fun N hN => ?_
 refine ⟨fun _ _ => trivial, ?_⟩
 have hfe : a.eval f = .func (.yield lr) ⟨[]⟩ ⟨[]⟩ := H.ev (G := []) (fun _ h => by cases h) hf
 have hxe : xs.map a.eval = ⟨vs⟩ := evs_arr H (fun _ h => by cases h) hx
 have he : (Oper.semAt (FW none).round a.eval ⟨some d, .call ⟨.value f, xs, ts⟩, ty, pos, after, none⟩).run P w = .ok (.round lr fn tmps assign body) w := by
  rw [Oper.semAt_eq _ _ _ (fun c h => by cases h)]
  generalize a.eval = ρ at hfe hxe
  simp [execOp, resolve, hfe, hxe, invoke, go_sem, hrun]
 rw [he]
 refine ⟨fun h => (by cases h), hR.mono ?_⟩
 intro e w' hk'
 obtain ⟨v, rfl, h⟩ := hK e w' hk'
 exact hN _ _ (h _ ((FrG.set (H := H) hd).keep (hk v)))
end
end Go.V

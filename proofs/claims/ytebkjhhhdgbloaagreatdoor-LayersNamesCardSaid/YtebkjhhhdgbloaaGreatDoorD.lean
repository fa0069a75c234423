/-
 Regions whose order is open and that take steps on memory. Nothing here is a statement of this claim.
-/
import Derived.Test.YtebkjhhhdgbloaaGreatDoorO
namespace Go.V
open Go Go.RowKit
section
variable {M : Av} {X : List Nat} {w0 w w' : World} {L La Lr L' : List Ent}
theorem fpl_app (A B : List Ent) : fpl (A ++ B) = fpl A ++ fpl B := by
 induction A with
 | nil => rfl
 | cons e r ih => simp [fpl, ih]
theorem fpl_mem_perm {A B : List Ent} (h : A.Perm B) {b : Nat} : b ∈ fpl A ↔ b ∈ fpl B := by
 rw [mem_fpl, mem_fpl]
 exact ⟨fun ⟨e, he, hb⟩ => ⟨e, h.mem_iff.1 he, hb⟩, fun ⟨e, he, hb⟩ => ⟨e, h.mem_iff.2 he, hb⟩⟩
theorem SH.perm (h : SH M X w0 L w) (hp : L.Perm L') : SH M X w0 L' w :=
 ⟨h.kp, (hp.pairwise_iff (fun {e f} h => Dj.symm h)).1 h.nd, fun b hb => h.lo b ((fpl_mem_perm hp).2 hb), fun b hb => h.nm b ((fpl_mem_perm hp).2 hb), h.mx, fun e he => e.anti (h.ps e (hp.mem_iff.2 he)) fun b hb => by
  rcases hb with hb | hb
  ·exact .inl hb
  ·exact .inr ((fpl_mem_perm hp).2 hb)⟩
theorem SH.hand2 (h : SH M X w0 (La ++ Lr) w) : S0 (AvL M Lr) La w := by
 have hn := h.nd
 rw [List.pairwise_append] at hn
 have hin : ∀ {b : Nat}, b ∈ fpl La → b ∈ fpl (La ++ Lr) := fun hb => by rw [fpl_app]; exact List.mem_append_left _ hb
 have hir : ∀ {b : Nat}, b ∈ fpl Lr → b ∈ fpl (La ++ Lr) := fun hb => by rw [fpl_app]; exact List.mem_append_right _ hb
 refine ⟨Kp.refl _ _, hn.1, fun b hb => .inr hb, fun b hb hm => ?_, fun b hm => ?_, fun e he => e.anti (h.ps e (List.mem_append_left _ he)) fun b hb => ?_⟩
 ·rcases hm with hm | hm
  ·exact h.nm b (hin hb) hm
  ·obtain ⟨e, he, hbe⟩ := mem_fpl.1 hb
   obtain ⟨f, hf, hbf⟩ := mem_fpl.1 hm
   exact hn.2.2 e he f hf b hbe hbf
 ·rcases hm with hm | hm
  ·exact Nat.lt_of_lt_of_le (h.mx b hm) h.kp.size
  ·exact h.sel_lt (hir hm)
 ·rcases hb with (hb | hb) | hb
  ·exact .inl hb
  ·exact .inr (hir hb)
  ·exact .inr (hin hb)
theorem SH.join2 (h : SH M X w0 (La ++ Lr) w) (h2 : SH (AvL M Lr) (fpl La) w L' w') : SH M X w0 (L' ++ Lr) w' := by
 have hn := h.nd
 rw [List.pairwise_append] at hn
 have hin : ∀ {b : Nat}, b ∈ fpl La → b ∈ fpl (La ++ Lr) := fun hb => by rw [fpl_app]; exact List.mem_append_left _ hb
 have hir : ∀ {b : Nat}, b ∈ fpl Lr → b ∈ fpl (La ++ Lr) := fun hb => by rw [fpl_app]; exact List.mem_append_right _ hb
 have hout : ∀ {b : Nat}, b ∈ fpl (L' ++ Lr) → b ∈ fpl L' ∨ b ∈ fpl Lr := fun hb => by rw [fpl_app] at hb; exact List.mem_append.1 hb
 refine ⟨h.kp.trans h2.kp (fun y hy => ?_), ?_, fun b hb => ?_, fun b hb => ?_, h.mx, fun e he => ?_⟩
 ·rcases h.lo y (hin hy) with h1 | h1
  ·exact .inr h1
  ·exact .inl h1
 ·rw [List.pairwise_append]
  refine ⟨h2.nd, hn.2.1, fun e he f hf y hy hyf => ?_⟩
  exact h2.nm y (mem_fpl.2 ⟨e, he, hy⟩) (.inr (mem_fpl.2 ⟨f, hf, hyf⟩))
 ·rcases hout hb with hb | hb
  ·rcases h2.lo b hb with h1 | h1
   ·exact .inl (Nat.le_trans h.kp.size h1)
   ·exact h.lo b (hin h1)
  ·exact h.lo b (hir hb)
 ·rcases hout hb with hb | hb
  ·exact fun hm => h2.nm b hb (.inl hm)
  ·exact h.nm b (hir hb)
 ·rcases List.mem_append.1 he with he | he
  ·refine e.anti (h2.ps e he) fun b hb => ?_
   rcases hb with hb | hb
   ·exact .inl (.inl hb)
   ·rcases hout hb with hb | hb
    ·exact .inr hb
    ·exact .inl (.inr hb)
  ·have hp := e.fresh (h.ps e (List.mem_append_right _ he))
   refine e.anti (e.kp hp h2.kp (fun b hb => .inl (.inr (hin hb))) (fun b hb hb' => ?_)) fun b hb => ?_
   ·obtain ⟨f, hf, hbf⟩ := mem_fpl.1 hb'
    exact hn.2.2 f hf e he b hbf hb
   ·rcases hb with hb | hb
    ·exact .inl (.inl hb)
    ·rcases hout hb with hb | hb
     ·rcases h2.lo b hb with h1 | h1
      ·exact .inr h1
      ·exact .inl (.inr (hin h1))
     ·exact .inl (.inr (hir hb))
end
abbrev Gm := Nat → Nat → Gh
def updC (y : Gm) (i : Nat) (g : Nat → Gh) : Gm := fun j => cond (Nat.beq j i) g (y j)
theorem updC_ne (y : Gm) (g : Nat → Gh) {i j : Nat} (h : j ≠ i) : updC y i g j = y j := by
 unfold updC
 cases hb : Nat.beq j i with
 | true => exact absurd (Nat.eq_of_beq_eq_true hb) h
 | false => rfl
def AllN : Nat → Nat → (Nat → Prop) → Prop
 | 0, _, _ => True
 | n + 1, i, p => p i ∧ AllN n (i + 1) p
theorem AllN.get {p : Nat → Prop} : ∀ {n i : Nat}, AllN n i p → ∀ j, i ≤ j → j < i + n → p j
 | 0, i, _, j, h1, h2 => by omega
 | n + 1, i, h, j, h1, h2 => by
  by_cases e : j = i
  ·subst e; exact h.1
  ·exact AllN.get h.2 j (by omega) (by omega)
def dstO (all : List Oper) (i : Nat) : Option Nat := (all[i]?).bind (·.dst)
def okAllO (n : Nat) (base : SF) (all : List Oper) : Bool :=
 (all.all fun o => true && match o.dst with | some d => Nat.blt d n && base.all fun e => e.2.1.isEmpty && !(Nat.beq e.1 d) | none => base.all fun e => e.2.1.isEmpty) && nodupBO (all.map (·.dst))
where nodupBO : List (Option Nat) → Bool
 | [] => true
 | none :: r => nodupBO r
 | some d :: r => (r.all fun q => match q with | some e => !(Nat.beq d e) | none => true) && nodupBO r
theorem nodupBO_spec : ∀ {l : List (Option Nat)}, okAllO.nodupBO l = true → ∀ (i j : Nat) (d e : Nat), i < j → l[i]? = some (some d) → l[j]? = some (some e) → d ≠ e
 | [], _, i, j, d, e, _, h, _ => by simp at h
 | none :: r, hn, i, j, d, e, hij, h1, h2 => by
  match i, j, hij with
  | 0, _, _ => simp at h1
  | i + 1, j + 1, hij => exact nodupBO_spec (l := r) (by simpa [okAllO.nodupBO] using hn) i j d e (by omega) (by simpa using h1) (by simpa using h2)
 | some x :: r, hn, i, j, d, e, hij, h1, h2 => by
  have hn' : (r.all fun q => match q with | some e => !(Nat.beq x e) | none => true) = true ∧ okAllO.nodupBO r = true := by simpa [okAllO.nodupBO] using hn
  match i, j, hij with
  | 0, j + 1, _ =>
   have hx : x = d := by simpa using h1
   subst hx
   have := (List.all_eq_true.1 hn'.1) (some e) (List.mem_of_getElem? (by simpa using h2))
   intro hde
   subst hde
   simp at this
  | i + 1, j + 1, hij => exact nodupBO_spec (l := r) hn'.2 i j d e (by omega) (by simpa using h1) (by simpa using h2)
def resOf (N : Nat) (ress : Gm → List (List Ent)) (L : List Ent) (y : Gm) : List Nat → List Ent
 | [] => []
 | j :: r => (cond (Nat.blt j N) ((ress y).getD j []) [L.getD (j - N) .none]) ++ resOf N ress L y r
def memB (l : List Nat) (j : Nat) : Bool := l.any fun k => Nat.beq k j
theorem memB_iff {l : List Nat} {j : Nat} : memB l j = true ↔ j ∈ l := by
 unfold memB
 rw [List.any_eq_true]
 exact ⟨fun ⟨k, hk, h⟩ => by rw [← Nat.eq_of_beq_eq_true h]; exact hk, fun h => ⟨j, h, by simp⟩⟩
def nodupB : List Nat → Bool
 | [] => true
 | k :: r => !memB r k && nodupB r
theorem nodupB_iff : ∀ {l : List Nat}, nodupB l = true → l.Nodup
 | [], _ => List.nodup_nil
 | k :: r, h => by
  unfold nodupB at h
  rw [Bool.and_eq_true] at h
  rw [List.nodup_cons]
  refine ⟨fun hk => ?_, nodupB_iff h.2⟩
  rw [memB_iff.2 hk] at h
  simp at h
def okUse (N m : Nat) (all : List Oper) (use cons supp : List (List Nat)) : Bool :=
 (List.range N).all fun i =>
  nodupB (use.getD i []) &&
  ((use.getD i []).all fun j => (Nat.blt j (N + m)) && (!(Nat.blt j N) || reach all N i j) && (List.range N).all fun k => !(memB (cons.getD k []) j) || Nat.beq k i || reach all N k i) &&
  ((cons.getD i []).all fun j => memB (use.getD i []) j) &&
  ((supp.getD i []).all fun j => Nat.beq j i || reach all N i j) &&
  ((List.range N).all fun k => Nat.beq k i || (cons.getD k []).all fun j => !(memB (cons.getD i []) j))
def isL (listed : Array Bool) (k : Nat) : Bool := listed.getD k false
def usedUp (N : Nat) (cons : List (List Nat)) (listed : Array Bool) (j : Nat) : Bool := (List.range N).any fun k => isL listed k && memB (cons.getD k []) j
def liveL (N m : Nat) (cons : List (List Nat)) (listed : Array Bool) : List Nat := (List.range (N + m)).filter fun j => (!(Nat.blt j N) || isL listed j) && !(usedUp N cons listed j)
def finL (N m : Nat) (cons : List (List Nat)) : List Nat := (List.range (N + m)).filter fun j => !((List.range N).any fun k => memB (cons.getD k []) j)
section
variable {N : Nat} {ress : Gm → List (List Ent)} {L : List Ent} {y : Gm}
theorem resOf_app (A B : List Nat) : resOf N ress L y (A ++ B) = resOf N ress L y A ++ resOf N ress L y B := by
 induction A with
 | nil => rfl
 | cons j r ih => simp [resOf, ih]
theorem resOf_perm {A B : List Nat} (h : A.Perm B) : (resOf N ress L y A).Perm (resOf N ress L y B) := by
 induction h with
 | nil => exact List.Perm.nil
 | cons x _ ih => exact List.Perm.append_left _ ih
 | swap x z l =>
  simp only [resOf, ← List.append_assoc]
  exact List.Perm.append_right _ List.perm_append_comm
 | trans _ _ h1 h2 => exact h1.trans h2
theorem resOf_congr {y' : Gm} {A : List Nat} (h : ∀ j ∈ A, Nat.blt j N = true → (ress y).getD j [] = (ress y').getD j []) : resOf N ress L y A = resOf N ress L y' A := by
 induction A with
 | nil => rfl
 | cons j r ih =>
  simp only [resOf]
  rw [ih fun k hk => h k (List.mem_cons_of_mem _ hk)]
  congr 1
  cases hb : Nat.blt j N with
  | true => simp only [cond_true]; exact h j List.mem_cons_self hb
  | false => rfl
end
def okOld (N : Nat) (all : List Oper) (old : List (Nat × Nat × Value)) : Bool :=
 old.all fun e => Nat.blt e.2.1 N && (List.range N).all fun i => Nat.beq i e.2.1 || !(dstO all i == some e.1)
structure DI {n : Nat} (N m : Nat) (base : SF) (all : List Oper) (cons : List (List Nat)) (vals : Gm → List Value) (ress : Gm → List (List Ent)) (L : List Ent) (old : List (Nat × Nat × Value)) (M : Av) (X : List Nat) (wE : World) (listed : Array Bool) (a : Act) (w : World) (y : Gm) : Prop where
 size : listed.size = N
 fr : FrG [] n base a
 did : ∀ i, isL listed i = true → ∀ d, dstO all i = some d → a.tmps[d]? = some ((vals y).getD i undef)
 cl : ∀ (i : Nat) (o : Oper), isL listed i = true → all[i]? = some o → ∀ e ∈ o.after, Region.binds .any e = true → isL listed e.on = true
 sh : SH M X wE (resOf N ress L y (liveL N m cons listed)) w
 od : ∀ (k : Nat) e, old[k]? = some e → isL listed e.2.1 = false → a.tmps[e.1]? = some e.2.2
theorem nodup_filter {l : List Nat} (p : Nat → Bool) (h : l.Nodup) : (l.filter p).Nodup := List.Pairwise.filter p h
theorem nt {b : Bool} : (!b) = true ↔ ¬ b = true := by cases b <;> simp
theorem blt_iff {j N : Nat} : Nat.blt j N = true ↔ j < N := by simp [Nat.blt, Nat.lt_iff_add_one_le]
theorem isL_get {listed : Array Bool} {i : Nat} : isL listed i = true ↔ listed[i]? = some true := by
 unfold isL
 rw [Array.getD_eq_getD_getElem?]
 cases h : listed[i]? with
 | none => simp
 | some b => simp
@[reducible] def ung (o : Oper) : Oper := match o with
 | ⟨d, op, ty, pos, after, _⟩ => ⟨d, op, ty, pos, after, none⟩
def gdOk (all : List Oper) (vals : Gm → List Value) (supp : List (List Nat)) (i : Nat) : Option (Nat × Bool) → Prop
 | none => True
 | some (j, b) => (memB (supp.getD i []) j && !(Nat.beq j i) && (dstO all j).isSome) = true ∧ ∀ y, (vals y).getD j undef = .bool b
def gdOff (all : List Oper) (vals : Gm → List Value) (ress : Gm → List (List Ent)) (use supp : List (List Nat)) (i : Nat) : Option (Nat × Bool) → Prop
 | none => False
 | some (j, b) => (memB (supp.getD i []) j && !(Nat.beq j i) && (dstO all j).isSome) = true ∧ ((∀ y, (vals y).getD j undef = .bool (!b)) ∨ ∀ y, (vals y).getD j undef = undef) ∧ (∀ y, (vals y).getD i undef = undef ∧ (ress y).getD i [] = []) ∧ use.getD i [] = []
theorem AllN.and {p q : Nat → Prop} : ∀ {n i : Nat}, AllN n i p → AllN n i q → AllN n i fun i => p i ∧ q i
 | 0, _, _, _ => trivial
 | _ + 1, _, h, k => ⟨⟨h.1, k.1⟩, AllN.and h.2 k.2⟩
theorem AllN.imp {p q : Nat → Prop} (f : ∀ i, p i → q i) : ∀ {n i : Nat}, AllN n i p → AllN n i q
 | 0, _, _ => trivial
 | _ + 1, i, h => ⟨f i h.1, AllN.imp f h.2⟩
theorem gd_none {all : List Oper} {vals : Gm → List Value} {supp : List (List Nat)} (h : (all.all fun o => o.guard.isNone) = true) : ∀ n i, AllN n i fun i => gdOk all vals supp i ((all[i]?).bind (·.guard))
 | 0, _ => trivial
 | n + 1, i => by
  refine ⟨?_, gd_none h n (i + 1)⟩
  show gdOk all vals supp i ((all[i]?).bind (·.guard))
  cases hi : all[i]? with
  | none => trivial
  | some o =>
   have := List.all_eq_true.1 h o (List.mem_of_getElem? hi)
   have h2 : o.guard = none := by simpa using this
   show gdOk all vals supp i o.guard
   rw [h2]
   trivial
theorem wp_drawG {P : Program} {n id : Nat} {all : List Oper} {Q : Exit → Act → World → Prop} {a : Act} {w wE : World} {base : SF} {M : Av} {X : List Nat} {L : List Ent} (N m : Nat) (vals : Gm → List Value) (ress : Gm → List (List Ent)) (use cons supp : List (List Nat)) (old : List (Nat × Nat × Value))
  (H : FrG [] n base a) (hold : ∀ (k : Nat) e, old[k]? = some e → a.tmps[e.1]? = some e.2.2) (hoo : okOld N all old = true) (hS : SH M X wE L w) (hm : P.follows .mixedOrders = true) (hN : all.length = N) (hL : L.length = m) (hok : okAllO n base all = true) (hor : okOrd all = true) (hus : okUse N m all use cons supp = true)
  (hlocA : AllN N 0 fun j => ∀ (y : Gm) (i : Nat) (g : Nat → Gh), i ∉ supp.getD j [] → (vals (updC y i g)).getD j undef = (vals y).getD j undef ∧ (ress (updC y i g)).getD j [] = (ress y).getD j [])
  (hA : AllN N 0 fun i => gdOff all vals ress use supp i ((all[i]?).bind (·.guard)) ∨ (gdOk all vals supp i ((all[i]?).bind (·.guard)) ∧ ∀ o, all[i]? = some o → ∀ a' w' y M', FrG [] n base a' → (∀ j ∈ supp.getD i [], j ≠ i → ∀ d, dstO all j = some d → a'.tmps[d]? = some ((vals y).getD j undef)) → (∀ (k : Nat) e, old[k]? = some e → (Nat.beq e.2.1 i || reach all N e.2.1 i) = true → a'.tmps[e.1]? = some e.2.2) → S0 M' (resOf N ress L y (use.getD i [])) w' →
   Stp P (ung o) a' w' fun v w2 => ∃ g : Nat → Gh, (∀ d, dstO all i = some d → v = (vals (updC y i g)).getD i undef) ∧ SH M' (fpl (resOf N ress L y (use.getD i []))) w' ((ress (updC y i g)).getD i [] ++ resOf N ress L y ((use.getD i []).filter fun j => !(memB (cons.getD i []) j))) w2))
  (hK : ∀ a' w' y, FrG [] n base a' → (∀ i d, dstO all i = some d → a'.tmps[d]? = some ((vals y).getD i undef)) → SH M X wE (resOf N ress L y (finL N m cons)) w' → Q .normal a' w') :
  (Code.region id all.toArray true).wp P Q a w := by
 subst hN
 have hloc : ∀ (y : Gm) (i : Nat) (g : Nat → Gh) (j : Nat), j < all.length → i ∉ supp.getD j [] → (vals (updC y i g)).getD j undef = (vals y).getD j undef ∧ (ress (updC y i g)).getD j [] = (ress y).getD j [] := fun y i g j hj => hlocA.get j (by omega) (by omega) y i g
 unfold okAllO at hok
 rw [Bool.and_eq_true, List.all_eq_true] at hok
 obtain ⟨hok1, hnd⟩ := hok
 have hdst : ∀ i o, all[i]? = some o → True ∧ o.dst = dstO all i ∧ (∀ e ∈ base, e.2.1 = []) ∧ ∀ d, dstO all i = some d → Nat.blt d n = true ∧ ∀ e ∈ base, e.1 ≠ d := by
  intro i o ho
  have h1 := hok1 o (List.mem_of_getElem? ho)
  rw [Bool.and_eq_true] at h1
  obtain ⟨h2, h3⟩ := h1
  have e1 : dstO all i = o.dst := by simp [dstO, ho]
  rw [e1]
  cases hd : o.dst with
  | none =>
   simp only [hd, List.all_eq_true] at h3
   exact ⟨trivial, rfl, fun e he => by have := h3 e he; simpa using this, fun d hd => by cases hd⟩
  | some d =>
   simp only [hd, Bool.and_eq_true, List.all_eq_true] at h3
   refine ⟨trivial, rfl, fun e he => ?_, fun d' hd' => ?_⟩
   ·have := h3.2 e he
    simp only [List.isEmpty_iff] at this
    exact this.1
   ·cases hd'
    refine ⟨h3.1, fun e he => ?_⟩
    have := h3.2 e he
    simp only [Bool.not_eq_true'] at this
    exact Nat.ne_of_beq_eq_false this.2
 have hdne : ∀ i j d e, i ≠ j → dstO all i = some d → dstO all j = some e → d ≠ e := by
  intro i j d e hij h1 h2
  have g1 : (all.map (·.dst))[i]? = some (some d) := by
   unfold dstO at h1
   rw [List.getElem?_map]
   cases hx : all[i]? with
   | none => rw [hx] at h1; cases h1
   | some o => rw [hx] at h1; simpa using h1
  have g2 : (all.map (·.dst))[j]? = some (some e) := by
   unfold dstO at h2
   rw [List.getElem?_map]
   cases hx : all[j]? with
   | none => rw [hx] at h2; cases h2
   | some o => rw [hx] at h2; simpa using h2
  rcases Nat.lt_or_gt_of_ne hij with hlt | hlt
  ·exact nodupBO_spec hnd i j d e hlt g1 g2
  ·exact fun h => nodupBO_spec hnd j i e d hlt g2 g1 h.symm
 have hord : ∀ i o, all[i]? = some o → ∀ e ∈ o.after, Region.binds .any e = true → e.on < i := by
  intro i o ho e he hb
  have hi : i < all.length := (List.getElem?_eq_some_iff.1 ho).1
  have h1 := (List.all_eq_true.1 hor) i (List.mem_range.2 hi)
  rw [ho] at h1
  have h2 := (List.all_eq_true.1 h1) e (by simpa using he)
  rw [hb] at h2
  simpa [Nat.blt, Nat.lt_iff_add_one_le] using h2
 -- what was checked
 have hchk : ∀ i, i < all.length → (use.getD i []).Nodup ∧ (∀ j ∈ use.getD i [], j < all.length + m ∧ (j < all.length → reach all all.length i j = true) ∧ ∀ k, k < all.length → j ∈ cons.getD k [] → k = i ∨ reach all all.length k i = true) ∧
   (∀ j ∈ cons.getD i [], j ∈ use.getD i []) ∧ (∀ j ∈ supp.getD i [], j = i ∨ reach all all.length i j = true) ∧ ∀ k, k < all.length → k ≠ i → ∀ j ∈ cons.getD k [], j ∉ cons.getD i [] := by
  intro i hi
  have h1 := (List.all_eq_true.1 hus) i (List.mem_range.2 hi)
  simp only [Bool.and_eq_true] at h1
  obtain ⟨⟨⟨⟨h1, h2⟩, h3⟩, h4⟩, h5⟩ := h1
  refine ⟨nodupB_iff h1, fun j hj => ?_, fun j hj => memB_iff.1 ((List.all_eq_true.1 h3) j hj), fun j hj => ?_, fun k hk hki j hj hj2 => ?_⟩
  ·have := (List.all_eq_true.1 h2) j hj
   simp only [Bool.and_eq_true, Bool.or_eq_true, Bool.not_eq_true'] at this
   obtain ⟨⟨p1, p2⟩, p3⟩ := this
   refine ⟨by simpa [Nat.blt, Nat.lt_iff_add_one_le] using p1, fun hjl => ?_, fun k hk hjk => ?_⟩
   ·rcases p2 with p2 | p2
    ·have : Nat.blt j all.length = true := by simpa [Nat.blt, Nat.lt_iff_add_one_le] using hjl
     rw [this] at p2; cases p2
    ·exact p2
   ·have := (List.all_eq_true.1 p3) k (List.mem_range.2 hk)
    simp only [Bool.or_eq_true, Bool.not_eq_true'] at this
    rcases this with (q | q) | q
    ·rw [memB_iff.2 hjk] at q; cases q
    ·exact .inl (Nat.eq_of_beq_eq_true q)
    ·exact .inr q
  ·have := (List.all_eq_true.1 h4) j hj
   simp only [Bool.or_eq_true] at this
   rcases this with q | q
   ·exact .inl (Nat.eq_of_beq_eq_true q)
   ·exact .inr q
  ·have := (List.all_eq_true.1 h5) k (List.mem_range.2 hk)
   simp only [Bool.or_eq_true] at this
   rcases this with q | q
   ·exact hki (Nat.eq_of_beq_eq_true q)
   ·have := (List.all_eq_true.1 q) j hj
    rw [memB_iff.2 hj2] at this
    cases this
 refine wp_region_any hm ?_
 have hend : ∀ (listed : Array Bool) (a' : Act) (w' : World) (y : Gm), DI (n := n) all.length m base all cons vals ress L old M X wE listed a' w' y → Region.ready .any all.toArray listed = [] → Q .normal a' w' := by
  intro listed a' w' y hI hr
  have hall : ∀ i, i < all.length → isL listed i = true := by
   intro i
   induction i using Nat.strongRecOn with
   | _ i ih =>
    intro hi
    have his : i < listed.size := by rw [hI.size]; exact hi
    cases hb : listed[i] with
    | true => rw [isL_get, Array.getElem?_eq_getElem his, hb]
    | false =>
     exfalso
     have : i ∈ Region.ready .any all.toArray listed := by
      rw [mem_ready]
      refine ⟨by simp [his, hb], all[i], by simp [hi], fun e he hbn => ?_⟩
      have hlt := hord i all[i] (List.getElem?_eq_getElem hi) e he hbn
      exact ih e.on hlt (by omega)
     rw [hr] at this
     cases this
  have hfl : liveL all.length m cons listed = finL all.length m cons := by
   unfold liveL finL
   apply List.filter_congr
   intro j _
   have h1 : (!(Nat.blt j all.length) || isL listed j) = true := by
    cases hb : Nat.blt j all.length with
    | false => rfl
    | true => simp only [Bool.not_true, Bool.false_or]; exact hall j (by simpa [Nat.blt, Nat.lt_iff_add_one_le] using hb)
   rw [h1, Bool.true_and]
   congr 1
   unfold usedUp
   rw [Bool.eq_iff_iff, List.any_eq_true, List.any_eq_true]
   constructor
   ·rintro ⟨k, hk, h⟩
    rw [Bool.and_eq_true] at h
    exact ⟨k, hk, h.2⟩
   ·rintro ⟨k, hk, h⟩
    exact ⟨k, hk, by rw [hall k (List.mem_range.1 hk), h]; rfl⟩
  refine hK a' w' y hI.fr (fun i d hd => hI.did i (hall i ?_) d hd) (hfl ▸ hI.sh)
  unfold dstO at hd
  rcases Nat.lt_or_ge i all.length with h | h
  ·exact h
  ·rw [List.getElem?_eq_none h] at hd; cases hd
 have key : ∀ (fuel : Nat) (listed : Array Bool) (a' : Act) (w' : World) (y : Gm), DI (n := n) all.length m base all cons vals ress L old M X wE listed a' w' y → listed.toList.count false = fuel → wpAny P .any all.toArray Q fuel listed a' w' := by
  intro fuel
  induction fuel with
  | zero =>
   intro listed a' w' y hI hc
   have hno : Region.ready .any all.toArray listed = [] := by
    rw [List.eq_nil_iff_forall_not_mem]
    intro i hi
    have h1 := (mem_ready.1 hi).1
    have h2 := List.count_eq_zero.1 hc
    have hlt : i < listed.size := by
     rcases Nat.lt_or_ge i listed.size with h | h
     ·exact h
     ·simp [Array.getD_eq_getD_getElem?, Array.getElem?_eq_none h] at h1
    apply h2
    simp [Array.getD_eq_getD_getElem?, hlt] at h1
    rw [← h1]
    simp
   exact ⟨hno, hend listed a' w' y hI hno⟩
  | succ fuel ih =>
   intro listed a' w' y hI hc
   refine ⟨hend listed a' w' y hI, fun i hi => ?_⟩
   obtain ⟨hun, o, ho, hall⟩ := mem_ready.1 hi
   have hlt : i < listed.size := by
    rcases Nat.lt_or_ge i listed.size with h | h
    ·exact h
    ·simp [Array.getD_eq_getD_getElem?, Array.getElem?_eq_none h] at hun
   have hun2 : listed[i] = false := by simpa [Array.getD_eq_getD_getElem?, hlt] using hun
   have hol : all[i]? = some o := by simpa using ho
   obtain ⟨_, hd, hbase0, hbase⟩ := hdst i o hol
   have hi_all : i < all.length := by rw [← hI.size]; exact hlt
   obtain ⟨c1, c2, c3, c4, c5⟩ := hchk i hi_all
   have hal : ∀ e ∈ o.after, Region.binds .any e = true → listed[e.on]? = some true := fun e he hb => isL_get.1 (hall e he hb)
   have hcl' : ∀ (i : Nat) (o : Oper), listed[i]? = some true → all[i]? = some o → ∀ e ∈ o.after, Region.binds .any e = true → listed[e.on]? = some true := fun i o h1 h2 e he hb => isL_get.1 (hI.cl i o (isL_get.2 h1) h2 e he hb)
   have hreach : ∀ j, reach all all.length i j = true → isL listed j = true := fun j hj => isL_get.2 (reach_listed hcl' _ i j o hol hal hj)
   have hni : isL listed i = false := by
    cases hb : isL listed i with
    | false => rfl
    | true => rw [isL_get, Array.getElem?_eq_getElem hlt, hun2] at hb; cases hb
   have hnreach : ∀ k, isL listed k = true → reach all all.length k i = true → False := by
    intro k hk hr
    have hkl : k < all.length := by
     rw [← hI.size]
     rcases Nat.lt_or_ge k listed.size with h | h
     ·exact h
     ·rw [isL_get, Array.getElem?_eq_none h] at hk; cases hk
    have hok : all[k]? = some all[k] := List.getElem?_eq_getElem hkl
    have := isL_get.2 (reach_listed hcl' _ k i all[k] hok (fun e he hb => hcl' k _ (isL_get.1 hk) hok e he hb) hr)
    rw [hni] at this
    cases this
   -- what is used is there
   have huse : ∀ j ∈ use.getD i [], j ∈ liveL all.length m cons listed := by
    intro j hj
    obtain ⟨q1, q2, q3⟩ := c2 j hj
    unfold liveL
    rw [List.mem_filter, List.mem_range, Bool.and_eq_true]
    refine ⟨q1, ?_, ?_⟩
    ·rcases Nat.lt_or_ge j all.length with h | h
     ·rw [hreach j (q2 h)]; simp
     ·have : Nat.blt j all.length = false := by
       cases hb : Nat.blt j all.length with
       | false => rfl
       | true =>
        have : j < all.length := by simpa [Nat.blt, Nat.lt_iff_add_one_le] using hb
        omega
      rw [this]; rfl
    ·cases hb : usedUp all.length cons listed j with
     | false => rfl
     | true =>
      exfalso
      unfold usedUp at hb
      rw [List.any_eq_true] at hb
      obtain ⟨k, hk, hb⟩ := hb
      rw [Bool.and_eq_true] at hb
      rcases q3 k (List.mem_range.1 hk) (memB_iff.1 hb.2) with rfl | hr
      ·rw [hni] at hb; cases hb.1
      ·exact hnreach k hb.1 hr
   have hlnd : (liveL all.length m cons listed).Nodup := nodup_filter _ List.nodup_range
   let U := use.getD i []
   let C := cons.getD i []
   let R := (liveL all.length m cons listed).filter fun j => !(memB U j)
   have hpu : (liveL all.length m cons listed).Perm (U ++ R) := by
    rw [List.perm_ext_iff_of_nodup hlnd]
    ·intro j
     rw [List.mem_append, List.mem_filter]
     constructor
     ·intro hj
      by_cases hju : j ∈ U
      ·exact .inl hju
      ·refine .inr ⟨hj, ?_⟩
       cases hb : memB U j with
       | false => rfl
       | true => exact absurd (memB_iff.1 hb) hju
     ·rintro (hj | hj)
      ·exact huse j hj
      ·exact hj.1
    ·rw [List.nodup_append]
     refine ⟨c1, nodup_filter _ hlnd, fun x hx z hz e => ?_⟩
     subst e
     rw [List.mem_filter, memB_iff.2 hx] at hz
     cases hz.2
   have hsh := hI.sh.perm (resOf_perm (N := all.length) (ress := ress) (L := L) (y := y) hpu)
   rw [resOf_app] at hsh
   have hh := hsh.hand2
   have hodd : ∀ (k : Nat) e, old[k]? = some e → (Nat.beq e.2.1 i || reach all all.length e.2.1 i) = true → a'.tmps[e.1]? = some e.2.2 := by
    intro k e he hr
    refine hI.od k e he ?_
    rw [Bool.or_eq_true] at hr
    rcases hr with hr | hr
    ·rw [Nat.eq_of_beq_eq_true hr]; exact hni
    ·cases hb : isL listed e.2.1 with
     | false => rfl
     | true => exact (hnreach e.2.1 hb hr).elim
   have fin : ∀ (v : Value) (w2 : World) (g : Nat → Gh), (∀ d, dstO all i = some d → v = (vals (updC y i g)).getD i undef) → SH (AvL M (resOf all.length ress L y R)) (fpl (resOf all.length ress L y U)) w' ((ress (updC y i g)).getD i [] ++ resOf all.length ress L y (U.filter fun j => !(memB C j))) w2 →
     wpAny P .any all.toArray Q fuel (listed.setIfInBounds i true) (a'.put (dstO all i) v) w2 := by
    intro v w2 g hv hS2
    have hset : ∀ j : Nat, isL (listed.setIfInBounds i true) j = true ↔ j = i ∨ isL listed j = true := by
     intro j
     rw [isL_get, isL_get, Array.getElem?_setIfInBounds]
     by_cases e : i = j
     ·subst e; simp [hlt]
     ·rw [if_neg e]
      exact ⟨fun h => .inr h, fun h => h.resolve_left fun x => e x.symm⟩
    have hlistlt : ∀ j, isL listed j = true → j < all.length := by
     intro j hj
     rw [← hI.size]
     rcases Nat.lt_or_ge j listed.size with h | h
     ·exact h
     ·rw [isL_get, Array.getElem?_eq_none h] at hj; cases hj
    -- the others stand on nothing of this one
    have hsup : ∀ j, isL listed j = true → i ∉ supp.getD j [] := by
     intro j hj hi2
     obtain ⟨_, _, _, d4, _⟩ := hchk j (hlistlt j hj)
     rcases d4 i hi2 with e | hr
     ·subst e; rw [hni] at hj; cases hj
     ·exact hnreach j hj hr
    have hmlive : ∀ j, j ∈ liveL all.length m cons listed → j < all.length → isL listed j = true := by
     intro j hj hjl
     unfold liveL at hj
     rw [List.mem_filter, Bool.and_eq_true] at hj
     have hb : Nat.blt j all.length = true := by simpa [Nat.blt, Nat.lt_iff_add_one_le] using hjl
     have := hj.2.1
     rw [hb] at this
     simpa using this
    have hres : ∀ A : List Nat, (∀ j ∈ A, j ∈ liveL all.length m cons listed) → resOf all.length ress L y A = resOf all.length ress L (updC y i g) A := by
     intro A hA
     refine resOf_congr fun j hj hb => ?_
     have hjl : j < all.length := by simpa [Nat.blt, Nat.lt_iff_add_one_le] using hb
     exact ((hloc y i g j hjl (hsup j (hmlive j (hA j hj) hjl))).2).symm
    have hjoin := hsh.join2 hS2
    let K := U.filter fun j => !(memB C j)
    have e1 : resOf all.length ress L y (K) = resOf all.length ress L (updC y i g) K := hres K fun j hj => huse j (List.mem_filter.1 hj).1
    have e2 : resOf all.length ress L y R = resOf all.length ress L (updC y i g) R := hres R fun j hj => (List.mem_filter.1 hj).1
    have hbi : Nat.blt i all.length = true := by simpa [Nat.blt, Nat.lt_iff_add_one_le] using hi_all
    have e3 : (ress (updC y i g)).getD i [] ++ resOf all.length ress L (updC y i g) K ++ resOf all.length ress L (updC y i g) R = resOf all.length ress L (updC y i g) (i :: (K ++ R)) := by
     simp only [resOf, hbi, cond_true, resOf_app, List.append_assoc]
    have hjoin2 : SH M X wE (resOf all.length ress L (updC y i g) (i :: (K ++ R))) w2 := by
     rw [← e3, ← e1, ← e2]
     exact hjoin
    have hpl : (i :: (K ++ R)).Perm (liveL all.length m cons (listed.setIfInBounds i true)) := by
     have hused : ∀ j, usedUp all.length cons (listed.setIfInBounds i true) j = true ↔ j ∈ C ∨ usedUp all.length cons listed j = true := by
      intro j
      unfold usedUp
      rw [List.any_eq_true, List.any_eq_true]
      constructor
      ·rintro ⟨k, hk, h⟩
       rw [Bool.and_eq_true, hset] at h
       rcases h.1 with rfl | h1
       ·exact .inl (memB_iff.1 h.2)
       ·exact .inr ⟨k, hk, by rw [h1, h.2]; rfl⟩
      ·rintro (h | ⟨k, hk, h⟩)
       ·exact ⟨i, List.mem_range.2 hi_all, by rw [Bool.and_eq_true, hset]; exact ⟨.inl rfl, memB_iff.2 h⟩⟩
       ·rw [Bool.and_eq_true] at h
        exact ⟨k, hk, by rw [Bool.and_eq_true, hset]; exact ⟨.inr h.1, h.2⟩⟩
     have hinl : i ∉ liveL all.length m cons listed := by
      intro h
      have := hmlive i h hi_all
      rw [hni] at this; cases this
     have hiC : ¬ (i ∈ C ∨ usedUp all.length cons listed i = true) := by
      rintro (h | h)
      ·exact hinl (huse i (c3 i h))
      ·unfold usedUp at h
       rw [List.any_eq_true] at h
       obtain ⟨k, hk, h⟩ := h
       rw [Bool.and_eq_true] at h
       obtain ⟨_, d2, d3, _, _⟩ := hchk k (List.mem_range.1 hk)
       have hik := d3 i (memB_iff.1 h.2)
       exact hnreach k h.1 ((d2 i hik).2.1 hi_all)
     rw [List.perm_ext_iff_of_nodup]
     ·intro j
      have hmem : j ∈ liveL all.length m cons (listed.setIfInBounds i true) ↔ j < all.length + m ∧ ((¬ j < all.length) ∨ j = i ∨ isL listed j = true) ∧ ¬ (j ∈ C ∨ usedUp all.length cons listed j = true) := by
       unfold liveL
       rw [List.mem_filter, List.mem_range, Bool.and_eq_true, Bool.or_eq_true, hset, nt, nt, hused, blt_iff]
      have hmem0 : j ∈ liveL all.length m cons listed ↔ j < all.length + m ∧ ((¬ j < all.length) ∨ isL listed j = true) ∧ ¬ (usedUp all.length cons listed j = true) := by
       unfold liveL
       rw [List.mem_filter, List.mem_range, Bool.and_eq_true, Bool.or_eq_true, nt, nt, blt_iff]
      rw [hmem, List.mem_cons, List.mem_append, List.mem_filter, List.mem_filter]
      have hnb : ∀ (l : List Nat), (!(memB l j)) = true ↔ j ∉ l := fun l => by
       rw [Bool.not_eq_true', ← memB_iff (l := l)]
       simp
      rw [hnb, hnb]
      constructor
      ·rintro (rfl | ⟨h1, h2⟩ | ⟨h1, h2⟩)
       ·exact ⟨by omega, .inr (.inl rfl), hiC⟩
       ·obtain ⟨p1, p2, p3⟩ := hmem0.1 (huse j h1)
        refine ⟨p1, p2.imp_right .inr, ?_⟩
        rintro (h | h)
        ·exact h2 h
        ·exact p3 h
       ·obtain ⟨p1, p2, p3⟩ := hmem0.1 h1
        refine ⟨p1, p2.imp_right .inr, ?_⟩
        rintro (h | h)
        ·exact h2 (c3 j h)
        ·exact p3 h
      ·rintro ⟨p1, p2, p3⟩
       by_cases e : j = i
       ·exact .inl e
       ·right
        have hj0 : j ∈ liveL all.length m cons listed := hmem0.2 ⟨p1, p2.imp_right fun h => h.resolve_left e, fun h => p3 (.inr h)⟩
        by_cases hu : j ∈ U
        ·exact .inl ⟨hu, fun h => p3 (.inl h)⟩
        ·exact .inr ⟨hj0, hu⟩
     ·rw [List.nodup_cons, List.nodup_append]
      refine ⟨fun h => ?_, nodup_filter _ c1, nodup_filter _ hlnd, fun x hx z hz e => ?_⟩
      ·rw [List.mem_append, List.mem_filter, List.mem_filter] at h
       rcases h with h | h
       ·exact hinl (huse i h.1)
       ·exact hinl h.1
      ·subst e
       rw [List.mem_filter] at hx hz
       rw [memB_iff.2 hx.1] at hz
       cases hz.2
     ·exact nodup_filter _ List.nodup_range
    refine ih (listed.setIfInBounds i true) (a'.put (dstO all i) v) w2 (updC y i g) ⟨by simp [hI.size], ?_, ?_, ?_, hjoin2.perm (resOf_perm hpl), ?_⟩ ?_
    ·cases hdd : dstO all i with
     | none => exact hI.fr
     | some d =>
      obtain ⟨hdn, hbn⟩ := hbase d hdd
      have h1 : FrG [] n (upd base d [] v) (a'.put (some d) v) := FrG.set (H := hI.fr) hdn
      refine ⟨h1.1, h1.2.1, fun e he => ?_⟩
      have hch := hbase0 e he
      have hne := hbn e he
      have h2 := hI.fr.2.2 e he
      rw [hch] at h2 ⊢
      refine ⟨fun _ => ?_, fun x => absurd (okc_nil _) x⟩
      rw [put_ne hne]
      exact h2.1 (okc_nil _)
    ·intro j hj d hjd
     rcases (hset j).1 hj with e1 | hj2
     ·subst e1
      have hsz : d < a'.tmps.size := by
       have h1 := hI.fr.2.1
       have : d < n := by simpa [Nat.blt, Nat.lt_iff_add_one_le] using (hbase d hjd).1
       omega
      rw [hv d hjd, hjd]
      simp [Act.put, hsz]
     ·have hne : j ≠ i := fun e => by subst e; rw [hni] at hj2; cases hj2
      have hdid := hI.did j hj2 d hjd
      rw [(hloc y i g j (hlistlt j hj2) (hsup j hj2)).1]
      cases hdd : dstO all i with
      | none => exact hdid
      | some d2 =>
       rw [put_ne (hdne j i d d2 hne hjd hdd)]
       exact hdid
    ·intro j oj hj hoj e he hb
     rcases (hset j).1 hj with e1 | hj2
     ·subst e1
      rw [hol] at hoj
      cases hoj
      exact (hset _).2 (.inr (isL_get.2 (hal e he hb)))
     ·exact (hset _).2 (.inr (hI.cl j oj hj2 hoj e he hb))
    ·intro k e he hl
     have hne : e.2.1 ≠ i ∧ isL listed e.2.1 = false := by
      refine ⟨fun h => ?_, ?_⟩
      ·rw [h, (hset i).2 (.inl rfl)] at hl; cases hl
      ·cases hb : isL listed e.2.1 with
       | false => rfl
       | true => rw [(hset _).2 (.inr hb)] at hl; cases hl
     have h0 := hI.od k e he hne.2
     have h1 := (List.all_eq_true.1 hoo) e (List.mem_of_getElem? he)
     rw [Bool.and_eq_true] at h1
     have h2 := (List.all_eq_true.1 h1.2) i (List.mem_range.2 hi_all)
     rw [Bool.or_eq_true] at h2
     have h3 : ¬ dstO all i = some e.1 := by
      rcases h2 with h2 | h2
      ·exact absurd (Nat.eq_of_beq_eq_true h2).symm hne.1
      ·simpa using h2
     cases hdd : dstO all i with
     | none => exact h0
     | some d =>
      rw [put_ne (fun h => h3 (by rw [hdd, h]))]
      exact h0
    ·rw [Array.toList_setIfInBounds, List.count_set (by simpa using hlt)]
     simp [hun2, hc]
   have hAi := hA.get i (by omega) (by omega)
   rw [hol] at hAi
   unfold wpOp
   rw [ho]
   rcases hAi with hoff | ⟨hgd, hstep⟩
   ·replace hoff : gdOff all vals ress use supp i o.guard := hoff
    have hnw : Region.wanted o (yielded all.toArray a'.tmps) = false ∧ (∀ y, (vals y).getD i undef = undef ∧ (ress y).getD i [] = []) ∧ U = [] := by
     cases hgo : o.guard with
     | none => rw [hgo] at hoff; exact hoff.elim
     | some jb =>
      obtain ⟨j, b⟩ := jb
      rw [hgo] at hoff
      obtain ⟨g1, g2, g3, g4⟩ := hoff
      rw [Bool.and_eq_true, Bool.and_eq_true, Bool.not_eq_true'] at g1
      have hj : j ∈ supp.getD i [] := memB_iff.1 g1.1.1
      have hji : j ≠ i := Nat.ne_of_beq_eq_false g1.1.2
      obtain ⟨d, hjd⟩ := Option.isSome_iff_exists.1 g1.2
      have h1 := hI.did j (hreach j ((c4 j hj).resolve_left hji)) d hjd
      refine ⟨?_, g3, g4⟩
      have h0 : ((all.toArray[j]?).bind (·.dst)) = some d := by simpa [dstO] using hjd
      rcases g2 with g2 | g2
      ·rw [g2 y] at h1
       have h2 : yielded all.toArray a'.tmps j = some (!b) := by
        unfold yielded
        rw [h0]
        simp only [Option.bind_some, h1]
       simp [Region.wanted, hgo, h2]
      ·rw [g2 y] at h1
       have h2 : yielded all.toArray a'.tmps j = none := by
        unfold yielded
        rw [h0]
        simp only [Option.bind_some, h1, undef]
       simp [Region.wanted, hgo, h2]
    obtain ⟨hnw, hvr, hU⟩ := hnw
    simp only [hnw, if_false, Bool.false_eq_true]
    rw [hd]
    refine fin undef w' (y i) (fun d _ => (hvr _).1.symm) ?_
    rw [(hvr _).2, hU]
    rw [hU] at hh
    exact hh
   ·have hw : Region.wanted o (yielded all.toArray a'.tmps) = true := by
     replace hgd : gdOk all vals supp i o.guard := hgd
     cases hgo : o.guard with
     | none => simp [Region.wanted, hgo]
     | some jb =>
      obtain ⟨j, b⟩ := jb
      rw [hgo] at hgd
      obtain ⟨g1, g2⟩ := hgd
      rw [Bool.and_eq_true, Bool.and_eq_true, Bool.not_eq_true'] at g1
      have hj : j ∈ supp.getD i [] := memB_iff.1 g1.1.1
      have hji : j ≠ i := Nat.ne_of_beq_eq_false g1.1.2
      obtain ⟨d, hjd⟩ := Option.isSome_iff_exists.1 g1.2
      have h1 := hI.did j (hreach j ((c4 j hj).resolve_left hji)) d hjd
      rw [g2 y] at h1
      have h2 : yielded all.toArray a'.tmps j = some b := by
       unfold yielded
       rw [show ((all.toArray[j]?).bind (·.dst)) = some d from by simpa [dstO] using hjd]
       simp only [Option.bind_some, h1]
      simp [Region.wanted, hgo, h2]
    simp only [hw, if_true]
    left
    have hst := hstep o rfl a' w' y _ hI.fr (fun j hj hji => hI.did j (hreach j ((c4 j hj).resolve_left hji))) hodd hh
    obtain ⟨dst0, op0, ty0, pos0, after0, guard0⟩ := o
    refine hst Q _ ?_
    rintro v w2 ⟨g, hv, hS2⟩
    rw [hd]
    exact fin v w2 g hv hS2
 have hl0 : resOf all.length ress L (fun _ _ => .nil) (liveL all.length m cons (Array.replicate all.toArray.size false)) = L := by
  have hnone : ∀ k, isL (Array.replicate all.toArray.size false) k = false := by
   intro k
   cases hb : isL (Array.replicate all.toArray.size false) k with
   | false => rfl
   | true =>
    rw [isL_get, Array.getElem?_replicate] at hb
    split at hb <;> cases hb
  have h1 : liveL all.length m cons (Array.replicate all.toArray.size false) = (List.range m).map (all.length + ·) := by
   unfold liveL
   have hu : ∀ j, usedUp all.length cons (Array.replicate all.toArray.size false) j = false := by
    intro j
    unfold usedUp
    rw [List.any_eq_false]
    intro k _
    rw [hnone]
    simp
   rw [List.range_add, List.filter_append]
   have p1 : (List.range all.length).filter (fun j => (!(Nat.blt j all.length) || isL (Array.replicate all.toArray.size false) j) && !(usedUp all.length cons (Array.replicate all.toArray.size false) j)) = [] := by
    rw [List.filter_eq_nil_iff]
    intro j hj
    have : Nat.blt j all.length = true := by simpa [Nat.blt, Nat.lt_iff_add_one_le] using List.mem_range.1 hj
    rw [this, hnone]
    simp
   rw [p1, List.nil_append, List.filter_eq_self]
   intro j hj
   obtain ⟨k, _, rfl⟩ := List.mem_map.1 hj
   have : Nat.blt (all.length + k) all.length = false := by
    cases hb : Nat.blt (all.length + k) all.length with
    | false => rfl
    | true =>
     have : all.length + k < all.length := by simpa [Nat.blt, Nat.lt_iff_add_one_le] using hb
     omega
   rw [this, hu]
   rfl
  rw [h1]
  have h2 : ∀ (q : List Nat), resOf all.length ress L (fun _ _ => .nil) (q.map (all.length + ·)) = q.map fun k => L.getD k .none := by
   intro q
   induction q with
   | nil => rfl
   | cons k r ih =>
    have : Nat.blt (all.length + k) all.length = false := by
     cases hb : Nat.blt (all.length + k) all.length with
     | false => rfl
     | true =>
      have : all.length + k < all.length := by simpa [Nat.blt, Nat.lt_iff_add_one_le] using hb
      omega
    simp only [List.map_cons, resOf, this, cond_false, ih, Nat.add_sub_cancel_left]
    rfl
  rw [h2, ← hL]
  apply List.ext_getElem
  ·simp
  ·intro i h1 h2
   simp at h1
   simp [h1]
 have hnone : ∀ k, isL (Array.replicate all.toArray.size false) k = true → False := by
  intro k hb
  rw [isL_get, Array.getElem?_replicate] at hb
  split at hb <;> cases hb
 refine key all.length (Array.replicate all.toArray.size false) a _ (fun _ _ => .nil) ⟨by simp, H, fun i hi => (hnone i hi).elim, fun i o hi => (hnone i hi).elim, ?_, fun k e he _ => hold k e he⟩ (by simp)
 rw [hl0]
 exact hS.below ⟨rfl, rfl, rfl, Nat.le_refl _, fun _ _ => rfl⟩
theorem wp_drawS {P : Program} {n id : Nat} {all : List Oper} {Q : Exit → Act → World → Prop} {a : Act} {w wE : World} {base : SF} {M : Av} {X : List Nat} {L : List Ent} (N m : Nat) (vals : Gm → List Value) (ress : Gm → List (List Ent)) (use cons supp : List (List Nat)) (old : List (Nat × Nat × Value))
  (H : FrG [] n base a) (hold : ∀ (k : Nat) e, old[k]? = some e → a.tmps[e.1]? = some e.2.2) (hoo : okOld N all old = true) (hS : SH M X wE L w) (hm : P.follows .mixedOrders = true) (hN : all.length = N) (hL : L.length = m) (hok : okAllO n base all = true) (hor : okOrd all = true) (hus : okUse N m all use cons supp = true) (hgdA : AllN N 0 fun i => gdOk all vals supp i ((all[i]?).bind (·.guard)))
  (hlocA : AllN N 0 fun j => ∀ (y : Gm) (i : Nat) (g : Nat → Gh), i ∉ supp.getD j [] → (vals (updC y i g)).getD j undef = (vals y).getD j undef ∧ (ress (updC y i g)).getD j [] = (ress y).getD j [])
  (hstepA : AllN N 0 fun i => ∀ o, all[i]? = some o → ∀ a' w' y M', FrG [] n base a' → (∀ j ∈ supp.getD i [], j ≠ i → ∀ d, dstO all j = some d → a'.tmps[d]? = some ((vals y).getD j undef)) → (∀ (k : Nat) e, old[k]? = some e → (Nat.beq e.2.1 i || reach all N e.2.1 i) = true → a'.tmps[e.1]? = some e.2.2) → S0 M' (resOf N ress L y (use.getD i [])) w' →
   Stp P (ung o) a' w' fun v w2 => ∃ g : Nat → Gh, (∀ d, dstO all i = some d → v = (vals (updC y i g)).getD i undef) ∧ SH M' (fpl (resOf N ress L y (use.getD i []))) w' ((ress (updC y i g)).getD i [] ++ resOf N ress L y ((use.getD i []).filter fun j => !(memB (cons.getD i []) j))) w2)
  (hK : ∀ a' w' y, FrG [] n base a' → (∀ i d, dstO all i = some d → a'.tmps[d]? = some ((vals y).getD i undef)) → SH M X wE (resOf N ress L y (finL N m cons)) w' → Q .normal a' w') :
  (Code.region id all.toArray true).wp P Q a w :=
  wp_drawG N m vals ress use cons supp old H hold hoo hS hm hN hL hok hor hus hlocA ((hgdA.and hstepA).imp fun _ h => .inr h) hK
theorem updC_out {y : Gm} {g : Nat → Gh} {i k : Nat} {l : List Nat} (hi : i ∉ l) (hk : memB l k = true) : updC y i g k = y k := updC_ne y g fun e => hi (e ▸ memB_iff.1 hk)
def rsY (ks : List Nat) (y : Gm) : Gm := fun k => cond (memB ks k) (y k) (fun _ => .nil)
theorem w_drawS {P : Program} {n id : Nat} {all : List Oper} {a : Act} {w wE : World} {base : SF} {M : Av} {X : List Nat} {L : List Ent} {N' R' : Post} {ES : List (Nat × Post)} (N m : Nat) (vals : Gm → List Value) (ress : Gm → List (List Ent)) (use cons supp : List (List Nat)) (old : List (Nat × Nat × Value))
  (H : FrG [] n base a) (hold : ∀ (k : Nat) e, old[k]? = some e → a.tmps[e.1]? = some e.2.2) (hoo : okOld N all old = true) (hS : SH M X wE L w) (hm : P.follows .mixedOrders = true) (hN : all.length = N) (hL : L.length = m) (hok : okAllO n base all = true) (hor : okOrd all = true) (hus : okUse N m all use cons supp = true) (hgdA : AllN N 0 fun i => gdOk all vals supp i ((all[i]?).bind (·.guard)))
  (hlocA : AllN N 0 fun j => ∀ (y : Gm) (i : Nat) (g : Nat → Gh), i ∉ supp.getD j [] → (vals (updC y i g)).getD j undef = (vals y).getD j undef ∧ (ress (updC y i g)).getD j [] = (ress y).getD j [])
  (hstepA : AllN N 0 fun i => ∀ o, all[i]? = some o → ∀ a' w' y M', FrG [] n base a' → (∀ j ∈ supp.getD i [], j ≠ i → ∀ d, dstO all j = some d → a'.tmps[d]? = some ((vals y).getD j undef)) → (∀ (k : Nat) e, old[k]? = some e → (Nat.beq e.2.1 i || reach all N e.2.1 i) = true → a'.tmps[e.1]? = some e.2.2) → S0 M' (resOf N ress L y (use.getD i [])) w' →
   Stp P (ung o) a' w' fun v w2 => ∃ g : Nat → Gh, (∀ d, dstO all i = some d → v = (vals (updC y i g)).getD i undef) ∧ SH M' (fpl (resOf N ress L y (use.getD i []))) w' ((ress (updC y i g)).getD i [] ++ resOf N ress L y ((use.getD i []).filter fun j => !(memB (cons.getD i []) j))) w2)
  (hK : ∀ a' w' y, FrG [] n base a' → (∀ i d, dstO all i = some d → a'.tmps[d]? = some ((vals y).getD i undef)) → SH M X wE (resOf N ress L y (finL N m cons)) w' → N' a' w') : (Code.region id all.toArray true).wp P (Qs N' ES R') a w := wp_drawS N m vals ress use cons supp old H hold hoo hS hm hN hL hok hor hus hgdA hlocA hstepA hK
theorem s_drawS {P : Program} {n id : Nat} {all : List Oper} {a : Act} {w wE : World} {base : SF} {M : Av} {X : List Nat} {L : List Ent} {N' R' : Post} {ES : List (Nat × Post)} {z : Code} (N m : Nat) (vals : Gm → List Value) (ress : Gm → List (List Ent)) (use cons supp : List (List Nat)) (old : List (Nat × Nat × Value))
  (H : FrG [] n base a) (hold : ∀ (k : Nat) e, old[k]? = some e → a.tmps[e.1]? = some e.2.2) (hoo : okOld N all old = true) (hS : SH M X wE L w) (hm : P.follows .mixedOrders = true) (hN : all.length = N) (hL : L.length = m) (hok : okAllO n base all = true) (hor : okOrd all = true) (hus : okUse N m all use cons supp = true) (hgdA : AllN N 0 fun i => gdOk all vals supp i ((all[i]?).bind (·.guard)))
  (hlocA : AllN N 0 fun j => ∀ (y : Gm) (i : Nat) (g : Nat → Gh), i ∉ supp.getD j [] → (vals (updC y i g)).getD j undef = (vals y).getD j undef ∧ (ress (updC y i g)).getD j [] = (ress y).getD j [])
  (hstepA : AllN N 0 fun i => ∀ o, all[i]? = some o → ∀ a' w' y M', FrG [] n base a' → (∀ j ∈ supp.getD i [], j ≠ i → ∀ d, dstO all j = some d → a'.tmps[d]? = some ((vals y).getD j undef)) → (∀ (k : Nat) e, old[k]? = some e → (Nat.beq e.2.1 i || reach all N e.2.1 i) = true → a'.tmps[e.1]? = some e.2.2) → S0 M' (resOf N ress L y (use.getD i [])) w' →
   Stp P (ung o) a' w' fun v w2 => ∃ g : Nat → Gh, (∀ d, dstO all i = some d → v = (vals (updC y i g)).getD i undef) ∧ SH M' (fpl (resOf N ress L y (use.getD i []))) w' ((ress (updC y i g)).getD i [] ++ resOf N ress L y ((use.getD i []).filter fun j => !(memB (cons.getD i []) j))) w2)
  (hK : ∀ a' w' y, FrG [] n base a' → (∀ i d, dstO all i = some d → a'.tmps[d]? = some ((vals y).getD i undef)) → SH M X wE (resOf N ress L y (finL N m cons)) w' → z.wp P (Qs N' ES R') a' w') : (Code.seq (.region id all.toArray true) z).wp P (Qs N' ES R') a w := w_seq (w_drawS N m vals ress use cons supp old H hold hoo hS hm hN hL hok hor hus hgdA hlocA hstepA hK)
theorem w_drawG {P : Program} {n id : Nat} {all : List Oper} {a : Act} {w wE : World} {base : SF} {M : Av} {X : List Nat} {L : List Ent} {N' R' : Post} {ES : List (Nat × Post)} (N m : Nat) (vals : Gm → List Value) (ress : Gm → List (List Ent)) (use cons supp : List (List Nat)) (old : List (Nat × Nat × Value))
  (H : FrG [] n base a) (hold : ∀ (k : Nat) e, old[k]? = some e → a.tmps[e.1]? = some e.2.2) (hoo : okOld N all old = true) (hS : SH M X wE L w) (hm : P.follows .mixedOrders = true) (hN : all.length = N) (hL : L.length = m) (hok : okAllO n base all = true) (hor : okOrd all = true) (hus : okUse N m all use cons supp = true)
  (hlocA : AllN N 0 fun j => ∀ (y : Gm) (i : Nat) (g : Nat → Gh), i ∉ supp.getD j [] → (vals (updC y i g)).getD j undef = (vals y).getD j undef ∧ (ress (updC y i g)).getD j [] = (ress y).getD j [])
  (hA : AllN N 0 fun i => gdOff all vals ress use supp i ((all[i]?).bind (·.guard)) ∨ (gdOk all vals supp i ((all[i]?).bind (·.guard)) ∧ ∀ o, all[i]? = some o → ∀ a' w' y M', FrG [] n base a' → (∀ j ∈ supp.getD i [], j ≠ i → ∀ d, dstO all j = some d → a'.tmps[d]? = some ((vals y).getD j undef)) → (∀ (k : Nat) e, old[k]? = some e → (Nat.beq e.2.1 i || reach all N e.2.1 i) = true → a'.tmps[e.1]? = some e.2.2) → S0 M' (resOf N ress L y (use.getD i [])) w' →
   Stp P (ung o) a' w' fun v w2 => ∃ g : Nat → Gh, (∀ d, dstO all i = some d → v = (vals (updC y i g)).getD i undef) ∧ SH M' (fpl (resOf N ress L y (use.getD i []))) w' ((ress (updC y i g)).getD i [] ++ resOf N ress L y ((use.getD i []).filter fun j => !(memB (cons.getD i []) j))) w2))
  (hK : ∀ a' w' y, FrG [] n base a' → (∀ i d, dstO all i = some d → a'.tmps[d]? = some ((vals y).getD i undef)) → SH M X wE (resOf N ress L y (finL N m cons)) w' → N' a' w') : (Code.region id all.toArray true).wp P (Qs N' ES R') a w := wp_drawG N m vals ress use cons supp old H hold hoo hS hm hN hL hok hor hus hlocA hA hK
theorem s_drawG {P : Program} {n id : Nat} {all : List Oper} {a : Act} {w wE : World} {base : SF} {M : Av} {X : List Nat} {L : List Ent} {N' R' : Post} {ES : List (Nat × Post)} {z : Code} (N m : Nat) (vals : Gm → List Value) (ress : Gm → List (List Ent)) (use cons supp : List (List Nat)) (old : List (Nat × Nat × Value))
  (H : FrG [] n base a) (hold : ∀ (k : Nat) e, old[k]? = some e → a.tmps[e.1]? = some e.2.2) (hoo : okOld N all old = true) (hS : SH M X wE L w) (hm : P.follows .mixedOrders = true) (hN : all.length = N) (hL : L.length = m) (hok : okAllO n base all = true) (hor : okOrd all = true) (hus : okUse N m all use cons supp = true)
  (hlocA : AllN N 0 fun j => ∀ (y : Gm) (i : Nat) (g : Nat → Gh), i ∉ supp.getD j [] → (vals (updC y i g)).getD j undef = (vals y).getD j undef ∧ (ress (updC y i g)).getD j [] = (ress y).getD j [])
  (hA : AllN N 0 fun i => gdOff all vals ress use supp i ((all[i]?).bind (·.guard)) ∨ (gdOk all vals supp i ((all[i]?).bind (·.guard)) ∧ ∀ o, all[i]? = some o → ∀ a' w' y M', FrG [] n base a' → (∀ j ∈ supp.getD i [], j ≠ i → ∀ d, dstO all j = some d → a'.tmps[d]? = some ((vals y).getD j undef)) → (∀ (k : Nat) e, old[k]? = some e → (Nat.beq e.2.1 i || reach all N e.2.1 i) = true → a'.tmps[e.1]? = some e.2.2) → S0 M' (resOf N ress L y (use.getD i [])) w' →
   Stp P (ung o) a' w' fun v w2 => ∃ g : Nat → Gh, (∀ d, dstO all i = some d → v = (vals (updC y i g)).getD i undef) ∧ SH M' (fpl (resOf N ress L y (use.getD i []))) w' ((ress (updC y i g)).getD i [] ++ resOf N ress L y ((use.getD i []).filter fun j => !(memB (cons.getD i []) j))) w2))
  (hK : ∀ a' w' y, FrG [] n base a' → (∀ i d, dstO all i = some d → a'.tmps[d]? = some ((vals y).getD i undef)) → SH M X wE (resOf N ress L y (finL N m cons)) w' → z.wp P (Qs N' ES R') a' w') : (Code.seq (.region id all.toArray true) z).wp P (Qs N' ES R') a w := w_seq (w_drawG N m vals ress use cons supp old H hold hoo hS hm hN hL hok hor hus hlocA hA hK)
end Go.V

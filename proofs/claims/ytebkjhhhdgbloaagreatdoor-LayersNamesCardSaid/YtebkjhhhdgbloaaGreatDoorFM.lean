/-
 Slices of the call's own whose elements are slices of the call's own. Nothing here is a statement of this claim.
-/
import Derived.Test.YtebkjhhhdgbloaaGreatDoorD
namespace Go.V
open Go Go.RowKit
variable {D : List Deferred}
def pkP (Ls : List Ent) (M : Av) (w : World) : Prop := Ls.Pairwise (fun (e f : Ent) => Dj e.fp f.fp) ∧ ∀ e ∈ Ls, e.p M w
def Ent.pk (Ls : List Ent) : Ent where
 fp := fpl Ls
 p := pkP Ls
 kp := fun h k hM hX => ⟨h.1, fun e he => e.kp (h.2 e he) k hM fun b hb => hX b (mem_fpl.2 ⟨e, he, hb⟩)⟩
 anti := fun h hM => ⟨h.1, fun e he => e.anti (h.2 e he) hM⟩
 fresh := fun h => ⟨h.1, fun e he => e.fresh (h.2 e he)⟩
 lt := fun h b hb => by
  obtain ⟨e, he, hbe⟩ := mem_fpl.1 hb
  exact e.lt (h.2 e he) b hbe
section
variable {M : Av} {X : List Nat} {w0 w : World} {L Ls : List Ent}
theorem fpl_pk : fpl (Ent.pk Ls :: L) = fpl (Ls ++ L) := by rw [fpl_app]; rfl
theorem SH.pack (h : SH M X w0 (Ls ++ L) w) : SH M X w0 (.pk Ls :: L) w := by
 have hn := h.nd
 rw [List.pairwise_append] at hn
 have ha : ∀ b, AvL M (.pk Ls :: L) b → AvL M (Ls ++ L) b := fun b hb => by
  rcases hb with hb | hb
  ·exact .inl hb
  ·rw [fpl_pk] at hb; exact .inr hb
 refine ⟨h.kp, ?_, fun b hb => h.lo b (by rw [← fpl_pk]; exact hb), fun b hb => h.nm b (by rw [← fpl_pk]; exact hb), h.mx, fun e he => ?_⟩
 ·rw [List.pairwise_cons]
  refine ⟨fun f hf y hy hyf => ?_, hn.2.1⟩
  obtain ⟨e, he, hye⟩ := mem_fpl.1 (show y ∈ fpl Ls from hy)
  exact hn.2.2 e he f hf y hye hyf
 ·rcases List.mem_cons.1 he with rfl | he
  ·exact ⟨hn.1, fun e he => e.anti (h.ps e (List.mem_append_left _ he)) ha⟩
  ·exact e.anti (h.ps e (List.mem_append_right _ he)) ha
theorem SH.unpack (h : SH M X w0 (.pk Ls :: L) w) : SH M X w0 (Ls ++ L) w := by
 have hn := h.nd
 rw [List.pairwise_cons] at hn
 have hp : (Ent.pk Ls).p (AvL M (.pk Ls :: L)) w := h.ps _ List.mem_cons_self
 have ha : ∀ b, AvL M (Ls ++ L) b → AvL M (.pk Ls :: L) b := fun b hb => by
  rcases hb with hb | hb
  ·exact .inl hb
  ·rw [← fpl_pk] at hb; exact .inr hb
 refine ⟨h.kp, ?_, fun b hb => h.lo b (by rw [fpl_pk]; exact hb), fun b hb => h.nm b (by rw [fpl_pk]; exact hb), h.mx, fun e he => ?_⟩
 ·rw [List.pairwise_append]
  exact ⟨hp.1, hn.2, fun e he f hf y hy hyf => hn.1 f hf y (mem_fpl.2 ⟨e, he, hy⟩) hyf⟩
 ·rcases List.mem_append.1 he with he | he
  ·exact e.anti (hp.2 e he) ha
  ·exact e.anti (h.ps e (List.mem_cons_of_mem _ he)) ha
end
abbrev Hd (α : Type) := List α × Gh
def tyHd (α : Type) : Ty (Hd α) := .flat 1 (fun p => [.slice p.2.a p.1.length p.2.c]) (fun _ => rfl) (fun _ => rfl)
def famL {α : Type} (E : TypeId) (T : Ty α) (qs : List (Hd α)) : List Ent := qs.map fun q => .own E T q.1 q.2
def Ent.fam {α : Type} (E : TypeId) (T : Ty α) (qs : List (Hd α)) : Ent := .pk (famL E T qs)
section
variable {α : Type} {E E2 : TypeId} {T : Ty α} {M : Av} {X : List Nat} {w0 w : World} {L : List Ent} {qs : List (Hd α)}
theorem SH.fam1 (h : SH M X w0 L w) : SH M X w0 (.fam E T [(([] : List α), .nil)] :: L) w := SH.pack (Ls := famL E T [([], .nil)]) (h.addNil E T)
theorem SH.famNil (h : SH M X w0 (.fam E T qs :: L) w) : SH M X w0 (.fam E T (qs ++ [([], .nil)]) :: L) w := by
 have h1 := (SH.unpack h).addNil E T
 refine SH.pack (h1.perm ?_)
 show (Ent.own E T ([] : List α) .nil :: (famL E T qs ++ L)).Perm (famL E T (qs ++ [([], .nil)]) ++ L)
 have e : famL E T (qs ++ [(([] : List α), Gh.nil)]) ++ L = famL E T qs ++ Ent.own E T ([] : List α) .nil :: L := by simp [famL]
 rw [e]
 exact List.perm_middle.symm
theorem perm_erase {β : Type} : ∀ (l : List β) (k : Nat) (_ : k < l.length), (l[k] :: l.eraseIdx k).Perm l
 | _ :: _, 0, _ => List.Perm.refl _
 | x :: r, k + 1, hk => ((List.Perm.swap _ _ _).trans ((perm_erase r k (by simpa using hk)).cons x))
theorem perm_set {β : Type} (q : β) : ∀ (l : List β) (k : Nat) (_ : k < l.length), (q :: l.eraseIdx k).Perm (l.set k q)
 | _ :: _, 0, _ => List.Perm.refl _
 | x :: r, k + 1, h => ((List.Perm.swap _ _ _).trans ((perm_set q r k (by simpa using h)).cons x))
theorem fam_k {k : Nat} (hk : k < qs.length) : (Ent.own E T qs[k].1 qs[k].2 :: famL E T (qs.eraseIdx k)).Perm (famL E T qs) :=
 (perm_erase qs k hk).map fun q : Hd α => Ent.own E T q.1 q.2
theorem fam_set {k : Nat} (hk : k < qs.length) (q : Hd α) : (Ent.own E T q.1 q.2 :: famL E T (qs.eraseIdx k)).Perm (famL E T (qs.set k q)) :=
 (perm_set q qs k hk).map fun q : Hd α => Ent.own E T q.1 q.2
theorem gi_hd {k : Int} (hk : 0 ≤ k ∧ k < ln qs) : gi qs k = qs[k.toNat]'(by unfold ln at hk; omega) := by
 have h : k.toNat < qs.length := by unfold ln at hk; omega
 simp [gi, List.getD_eq_getElem?_getD, List.getElem?_eq_getElem h]
theorem hd_ln : V.ln (qs.map (·.1)) = V.ln qs := by simp [V.ln]
theorem hd_gi {k : Int} (hk : 0 ≤ k ∧ k < V.ln qs) : gi (qs.map (·.1)) k = (gi qs k).1 := by
 rw [gi_hd hk]
 have h : k.toNat < qs.length := by unfold V.ln at hk; omega
 simp [gi, List.getD_eq_getElem?_getD, List.getElem?_eq_getElem h]
theorem hd_setl {k : Int} {p : Hd α} : setl (qs.map (·.1)) k p.1 = (setl qs k p).map (·.1) := by simp [setl, List.map_set]
theorem setl_setl {β : Type} {l : List β} {k : Int} {p q : β} : setl (setl l k p) k q = setl l k q := by simp [setl]
theorem gi_setl {β : Type} [Inhabited β] {l : List β} {k : Int} {p : β} (hk : 0 ≤ k ∧ k < V.ln l) : gi (setl l k p) k = p := by
 have h : k.toNat < l.length := by unfold V.ln at hk; omega
 simp [gi, setl, List.getD_eq_getElem?_getD, h]
theorem setl_last {β : Type} {l : List β} {x y : β} : setl (l ++ [x]) (V.ln l) y = l ++ [y] := by simp [setl, V.ln]
theorem hd_re {k : Int} {p p' : Hd α} (h : Value.slice p'.2.a p'.1.length p'.2.c = Value.slice p.2.a p.1.length p.2.c) : (setl qs k p).map (fun p : Hd α => Value.slice p.2.a p.1.length p.2.c) = (setl (setl qs k p) k p').map fun p : Hd α => Value.slice p.2.a p.1.length p.2.c := by
 rw [setl_setl]
 simp only [setl, List.map_set, h]
theorem hd_flat : ∀ (qs : List (Hd α)) (s : Nat → Nat → Gh) (t : Nat → Nat → Gh) (i : Nat), (∀ j (h : j < qs.length), t (i + j) 0 = qs[j].2) →
  ((zipG (qs.map (·.1)) t i).map (encp (Ty.sl T))).flatten = ((zipG qs s i).map (encp (tyHd α))).flatten
 | [], _, _, _, _ => rfl
 | q :: r, s, t, i, h => by
  have h0 := h 0 (by simp)
  have ih := hd_flat r s t (i + 1) fun j hj => by
   have := h (j + 1) (by simpa using hj)
   rw [show i + 1 + j = i + (j + 1) by omega]
   simpa using this
  simp only [List.map_cons, zipG, List.flatten_cons, ih]
  congr 1
  show [Value.slice (t i 0).a q.1.length (t i 0).c] = [Value.slice q.2.a q.1.length q.2.c]
  rw [show t i 0 = q.2 from by simpa using h0]
theorem SH.famOut {k : Int} (hk : 0 ≤ k ∧ k < V.ln qs) (h : SH M X w0 (.fam E T qs :: L) w) : SH M X w0 (.own E T (gi qs k).1 (gi qs k).2 :: .fam E T (qs.eraseIdx k.toNat) :: L) w := by
 have hkn : k.toNat < qs.length := by unfold V.ln at hk; omega
 rw [gi_hd hk]
 have h1 : SH M X w0 (famL E T (qs.eraseIdx k.toNat) ++ .own E T qs[k.toNat].1 qs[k.toNat].2 :: L) w := (SH.unpack h).perm (((fam_k hkn).symm.append_right _).trans List.perm_middle.symm)
 exact (SH.pack (Ls := famL E T (qs.eraseIdx k.toNat)) h1).perm (List.Perm.swap _ _ _)
theorem SH.famIn {k : Int} (hk : 0 ≤ k ∧ k < V.ln qs) {q : List α} {g : Gh} (h : SH M X w0 (.own E T q g :: .fam E T (qs.eraseIdx k.toNat) :: L) w) : SH M X w0 (.fam E T (setl qs k (q, g)) :: L) w := by
 have hkn : k.toNat < qs.length := by unfold V.ln at hk; omega
 have h1 : SH M X w0 (famL E T (qs.eraseIdx k.toNat) ++ .own E T q g :: L) w := SH.unpack (h.perm (List.Perm.swap _ _ _))
 exact SH.pack (Ls := famL E T (setl qs k (q, g))) (h1.perm (List.perm_middle.trans ((fam_set hkn (q, g)).append_right _)))
theorem SH.reHd {rs : List (Hd α)} {g : Gh} (he : qs.map (fun p => Value.slice p.2.a p.1.length p.2.c) = rs.map fun p => Value.slice p.2.a p.1.length p.2.c) (h : SH M X w0 (.own E (tyHd α) qs g :: L) w) : SH M X w0 (.own E (tyHd α) rs g :: L) w := by
 have hz : ∀ (l : List (Hd α)) (s : Nat → Nat → Gh) (i : Nat), ((zipG l s i).map (encp (tyHd α))).flatten = l.map fun p => Value.slice p.2.a p.1.length p.2.c := by
  intro l
  induction l with
  | nil => intros; rfl
  | cons x r ih => intro s i; simp only [zipG, List.map_cons, List.flatten_cons, ih]; rfl
 have hl : qs.length = rs.length := by simpa using congrArg List.length he
 have hn := h.nd
 rw [List.pairwise_cons] at hn
 refine ⟨h.kp, List.pairwise_cons.2 ⟨fun f hf => hn.1 f hf, hn.2⟩, fun b hb => h.lo b hb, fun b hb => h.nm b hb, h.mx, fun e hem => ?_⟩
 rcases List.mem_cons.1 hem with rfl | hem
 ·have ho : OwG E (tyHd α) (AvL M (.own E (tyHd α) qs g :: L)) w qs g := h.ow 0 rfl
  refine ⟨⟨?_, ho.ow.lt, by have := ho.ow.ln; rw [zipG_len] at this ⊢; rw [← hl]; exact this⟩, fun i hi => trivial⟩
  have hr := ho.ow.row
  rw [zipG_len, hz] at hr ⊢
  rw [← hl, ← he]
  exact hr
 ·exact h.ps e (List.mem_cons_of_mem _ hem)
theorem SH.famEnd {g : Gh} (h : SH M X w0 (.own E (tyHd α) qs g :: .fam E2 T qs :: L) w) : SH M X w0 (.own E (Ty.sl T) (qs.map (·.1)) (.mk g.a g.c fun i _ => (qs.getD i ([], .nil)).2) :: L) w := by
 have h1 : SH M X w0 (.own E (tyHd α) qs g :: (famL E2 T qs ++ L)) w := by
  have h2 := SH.unpack (h.perm (List.Perm.swap _ _ _))
  exact h2.perm List.perm_middle
 have hn := h1.nd
 rw [List.pairwise_cons, List.pairwise_append] at hn
 obtain ⟨hn0, hn1, hn2, hn3⟩ := hn
 have ho : OwG E (tyHd α) (AvL M (.own E (tyHd α) qs g :: (famL E2 T qs ++ L))) w qs g := h1.ow 0 rfl
 have hsub : ∀ {b}, b ∈ fpl (Ent.own E (Ty.sl T) (qs.map (·.1)) (.mk g.a g.c fun i _ => (qs.getD i ([], .nil)).2) :: L) → b ∈ fpl (.own E (tyHd α) qs g :: (famL E2 T qs ++ L)) := fun {b} hb => by
  simp only [fpl, List.mem_append] at hb ⊢
  rcases hb with hb | hb
  ·exact .inl hb
  ·right; rw [fpl_app]; exact List.mem_append_right _ hb
 have ha : ∀ b, AvL M (.own E (Ty.sl T) (qs.map (·.1)) (.mk g.a g.c fun i _ => (qs.getD i ([], .nil)).2) :: L) b → AvL M (.own E (tyHd α) qs g :: (famL E2 T qs ++ L)) b := fun b hb => by
  rcases hb with hb | hb
  ·exact .inl hb
  ·exact .inr (hsub hb)
 refine ⟨h1.kp, ?_, fun b hb => h1.lo b (hsub hb), fun b hb => h1.nm b (hsub hb), h1.mx, fun e he => ?_⟩
 ·rw [List.pairwise_cons]
  exact ⟨fun f hf => hn0 f (List.mem_append_right _ hf), hn2⟩
 ·rcases List.mem_cons.1 he with rfl | he
  ·have hl : (zipG (qs.map (·.1)) (fun i (_ : Nat) => (qs.getD i (([] : List α), Gh.nil)).2) 0).length = (zipG qs g.s 0).length := by rw [zipG_len, zipG_len, List.length_map]
   have hf := hd_flat (T := T) qs g.s (fun i (_ : Nat) => (qs.getD i (([] : List α), Gh.nil)).2) 0 fun j hj => by
    simp [List.getD_eq_getElem?_getD, List.getElem?_eq_getElem hj]
   refine ⟨⟨?_, ho.ow.lt, by rw [show (Gh.mk g.a g.c fun i (_ : Nat) => (qs.getD i (([] : List α), Gh.nil)).2).s = fun i (_ : Nat) => (qs.getD i (([] : List α), Gh.nil)).2 from rfl, hl]; exact ho.ow.ln⟩, fun i hi => ?_⟩
   ·have hr := ho.ow.row
    show w.ownsRow 0 E 1 (.slice g.a (zipG (qs.map (·.1)) (fun i (_ : Nat) => (qs.getD i (([] : List α), Gh.nil)).2) 0).length g.c) (zipG (qs.map (·.1)) (fun i (_ : Nat) => (qs.getD i (([] : List α), Gh.nil)).2) 0).length ((zipG (qs.map (·.1)) (fun i (_ : Nat) => (qs.getD i (([] : List α), Gh.nil)).2) 0).map (encp (Ty.sl T))).flatten
    rw [hl, hf]
    exact hr
   ·rw [List.length_map] at hi
    have hm : Ent.own E2 T qs[i].1 qs[i].2 ∈ famL E2 T qs := List.mem_map.2 ⟨qs[i], List.getElem_mem hi, rfl⟩
    have hq : OwG E2 T (AvL M (.own E (tyHd α) qs g :: (famL E2 T qs ++ L))) w qs[i].1 qs[i].2 := h1.ps _ (List.mem_cons_of_mem _ (List.mem_append_left _ hm))
    have := hq.sl (M' := AvL M (.own E (Ty.sl T) (qs.map (·.1)) (.mk g.a g.c fun i _ => (qs.getD i ([], .nil)).2) :: L)) (fun b hb hx => ?_) ha
    ·show SlG T _ w (qs.map (·.1))[i] (qs.getD i ([], .nil)).2
     rw [List.getElem_map, List.getD_eq_getElem?_getD, List.getElem?_eq_getElem hi]
     exact this
    ·rcases hx with hx | hx
     ·exact h1.nm b (mem_fpl.2 ⟨_, List.mem_cons_of_mem _ (List.mem_append_left _ hm), hb⟩) hx
     ·simp only [fpl, List.mem_append] at hx
      rcases hx with hx | hx
      ·exact hn0 _ (List.mem_append_left _ hm) b hx hb
      ·obtain ⟨f, hf2, hbf⟩ := mem_fpl.1 hx
       exact hn3 _ hm f hf2 b hb hbf
  ·exact e.anti (h1.ps e (List.mem_cons_of_mem _ (List.mem_append_right _ he))) ha
end
section
variable {P : Program} {a : Act} {w : World} {n : Nat} {l : SF} {M : Av}
theorem o_appK {α : Type} {T : Ty α} {d : Nat} {s x : Operand} {t ty e e2 : TypeId} {pos : String} {after : Array Edge} {zv : Value} {qs : List (Hd α)} {g2 : Gh} {n1 n2 c1 c2 : Nat} {a1 a2 : Option Addr} {l2 : List α} {k : Int} (hk : 0 ≤ k ∧ k < ln qs) (q : List α) (hq : (gi qs k).1 ++ l2 = q) (H : FrG D n l a) (hS : S0 M [.fam e T qs, .own e2 T l2 g2] w)
  (hs : ev l [] s = some (.slice a1 n1 c1)) (hx : ev l [] x = some (.slice a2 n2 c2)) (ha1 : (gi qs k).2.a = a1) (hc1 : (gi qs k).2.c = c1) (ha2 : g2.a = a2) (hn1 : (gi qs k).1.length = n1) (hn2 : l2.length = n2)
  (hu : P.underlying t = some (.slice e)) (hi : (P.info? e).map (fun i => (i.size, Nat.ble i.bytes 1024, i.zero)) = some (T.z, true, some zv)) (hzs : zv.cells.size = T.z) (hz : Nat.blt 0 T.z = true)
  (hl : V.ln (gi qs k).1 + V.ln l2 ≤ 137438953472) :
  Stp P ⟨some d, .call ⟨.builtin .append, #[s, x], #[t, t]⟩, ty, pos, after, none⟩ a w fun v w' => ∃ g : Gh, v = .slice g.a q.length g.c ∧ SH M (fpl [.fam e T qs, .own e2 T l2 g2]) w [.fam e T (setl qs k (q, g)), .own e2 T l2 g2] w' := by
 have hkn : k.toNat < qs.length := by unfold ln at hk; omega
 rw [gi_hd hk] at hq ha1 hc1 hn1 hl
 have h1 : SH M (fpl [.fam e T qs, .own e2 T l2 g2]) w ([.own e T qs[k.toNat].1 qs[k.toNat].2, .own e2 T l2 g2] ++ famL e T (qs.eraseIdx k.toNat)) w := by
  refine (SH.unpack (Ls := famL e T qs) (L := [.own e2 T l2 g2]) hS).perm ?_
  refine ((fam_k hkn).symm.append_right _).trans ?_
  exact (List.perm_append_comm (l₁ := famL e T (qs.eraseIdx k.toNat)) (l₂ := [Ent.own e2 T l2 g2])).cons _
 refine (o_app2 (P := P) (T := T) (d := d) (ty := ty) (pos := pos) (after := after) (zv := zv) (g1 := qs[k.toNat].2) (g2 := g2) (l1 := qs[k.toNat].1) (l2 := l2) q hq H (SH.hand2 h1) hs hx ha1 hc1 ha2 hn1 hn2 hu hi hzs hz hl).mono ?_
 rintro v w' ⟨g, rfl, hq2⟩
 refine ⟨g, rfl, ?_⟩
 have h2 := SH.join2 h1 hq2
 refine SH.pack (Ls := famL e T (setl qs k (q, g))) (L := [.own e2 T l2 g2]) (h2.perm ?_)
 refine List.Perm.trans ?_ ((fam_set hkn (q, g)).append_right [Ent.own e2 T l2 g2])
 exact (List.perm_append_comm (l₁ := [Ent.own e2 T l2 g2]) (l₂ := famL e T (qs.eraseIdx k.toNat))).cons _
end
end Go.V

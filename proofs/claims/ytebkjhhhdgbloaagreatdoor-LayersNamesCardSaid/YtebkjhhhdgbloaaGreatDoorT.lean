/-
 The rules of the small program logic in one piece each: what is known of slots and of things in memory ahead of a code, and that it ends well. Nothing here is a statement of this claim.
-/
import Derived.Test.YtebkjhhhdgbloaaGreatDoorD
import Derived.StillTail
namespace Go.V
open Go Go.RowKit
def T (D : List Deferred) (n : Nat) (M : Av) (X : List Nat) (w0 : World) (l : SF) (L : List Ent) (N : Post) : Prop :=
 ∀ a w, FrG D n l a → SH M X w0 L w → N a w
def fz : List Nat → List Value → SF
 | k :: ks, v :: vs => (k, [], v) :: fz ks vs
 | _, _ => []
structure Pk (S : World → Prop) where
 v : Option Value
 p : Ob
 h : ∀ w, S w → p w
def pkv {S : World → Prop} : List (Pk S) → List Value
 | [] => []
 | q :: r => match q.v with
  | some v => v :: pkv r
  | none => pkv r
def pko {S : World → Prop} : List (Pk S) → List Ob
 | [] => []
 | q :: r => q.p :: pko r
theorem pk_all {S : World → Prop} {w : World} (h : S w) : ∀ q : List (Pk S), allOb (pko q) w
 | [] => trivial
 | q :: r => ⟨q.h w h, pk_all h r⟩
section
variable {S : World → Prop}
def kh {p : Prop} (h : p) : Pk S := ⟨none, fun _ => p, fun _ _ => h⟩
def kc {P : Program} {f : FuncId} {args : Array Value} {v : Value} (h : Ret P f args v) : Pk S := ⟨some v, fun w => RetB P f args v w, fun _ _ => h.b⟩
def kr {P : Program} {f : FuncId} {args : Array Value} {v : Value} (h : ∀ w, S w → RetB P f args v w) : Pk S := ⟨some v, fun w => RetB P f args v w, h⟩
def kn {b o : Nat} {cs : List Value} (h : ∀ w, S w → atN b o cs 0 w) : Pk S := ⟨some (.agg ⟨cs⟩), atN b o cs 0, h⟩
def kgh (c : Prop) {p : Prop} (h : c → p) : Pk S := ⟨none, fun _ => c → p, fun _ _ => h⟩
def kgc (c : Prop) {P : Program} {f : FuncId} {args : Array Value} {v : Value} (h : c → Ret P f args v) : Pk S := ⟨some v, fun w => c → RetB P f args v w, fun _ _ hc => (h hc).b⟩
def kgr (c : Prop) {P : Program} {f : FuncId} {args : Array Value} {v : Value} (h : ∀ w, S w → c → RetB P f args v w) : Pk S := ⟨some v, fun w => c → RetB P f args v w, h⟩
end
section
variable {D : List Deferred} {n : Nat} {M : Av} {X : List Nat} {w0 : World} {l : SF} {L : List Ent} {N R : Post} {ES : List (Nat × Post)} {P : Program} {Q : Exit → Act → World → Prop} {all : List Oper} {id : Nat}
def kb (k o : Nat) {b : Nat} {cs : List Value} {v : Value} (hk : L[k]? = some (.blk b cs) := by rfl) (hv : cs[o]? = some v := by rfl) : Pk (SH M X w0 L) := ⟨some v, at1 ⟨b, o, none⟩ v, fun _ h => (h.bk k hk).at1 hv⟩
def ko (k o : Nat) {b : Nat} {cs : List Value} {v : Value} (hk : L[k]? = some (.ro b cs) := by rfl) (hv : cs[o]? = some v := by rfl) : Pk (SH M X w0 L) := ⟨some v, at1 ⟨b, o, none⟩ v, fun _ h => (h.ro k hk).at1 hv⟩
def kE (k n : Nat) {b : Nat} {cs : List Value} (hk : L[k]? = some (.blk b cs) := by rfl) : Pk (SH M X w0 L) := ⟨some (.agg ⟨cs.take n⟩), atN b 0 (cs.take n) 0, fun _ h => (h.bk k hk).atD (by simp [List.length_take, List.take_eq_take_iff])⟩
theorem t_in {a : Act} {w : World} (H : FrG D n l a) (hS : SH M X w0 L w) (h : T D n M X w0 l L N) : N a w := h a w H hS
theorem t_r {y : Code} (ks : List Nat) (vs : List Value) (q : List (Pk (SH M X w0 L))) (h : T D n M X w0 (fz ks vs) L fun a w => y.wp P (Qs N ES R) a w)
  (he : evk P n all (pkv q) l ks = some (fz ks vs, pko q) := by kernel_rfl) : T D n M X w0 l L fun a w => (Code.seq (.region id all.toArray false) y).wp P (Qs N ES R) a w :=
 fun _ _ H hS => s_reg (pkv q) ks _ (pko q) H he (pk_all hS q) fun _ _ H' hb => h _ _ H' (hS.below hb)
theorem t_w (ks : List Nat) (vs : List Value) (q : List (Pk (SH M X w0 L))) (h : T D n M X w0 (fz ks vs) L N)
  (he : evk P n all (pkv q) l ks = some (fz ks vs, pko q) := by kernel_rfl) : T D n M X w0 l L fun a w => (Code.region id all.toArray false).wp P (Qs N ES R) a w :=
 fun _ _ H hS => w_reg (pkv q) ks _ (pko q) H he (pk_all hS q) fun _ _ H' hb => h _ _ H' (hS.below hb)
theorem t_dr {y : Code} (ks : List Nat) (vs : List Value) (q : List (Pk (SH M X w0 L))) (h : T D n M X w0 (fz ks vs) L fun a w => y.wp P (Qs N ES R) a w)
  (he : evk P n all (pkv q) l ks = some (fz ks vs, pko q) := by kernel_rfl) (hm : P.follows .mixedOrders = true := by kernel_rfl) (hB : Region.lexB .any all.toArray = true := by kernel_rfl) : T D n M X w0 l L fun a w => (Code.seq (.region id all.toArray true) y).wp P (Qs N ES R) a w :=
 fun _ _ H hS => s_draw (pkv q) ks _ (pko q) H hm hB he (pk_all hS q) fun _ _ H' hb => h _ _ H' (hS.below hb)
theorem t_dw (ks : List Nat) (vs : List Value) (q : List (Pk (SH M X w0 L))) (h : T D n M X w0 (fz ks vs) L N)
  (he : evk P n all (pkv q) l ks = some (fz ks vs, pko q) := by kernel_rfl) (hm : P.follows .mixedOrders = true := by kernel_rfl) (hB : Region.lexB .any all.toArray = true := by kernel_rfl) : T D n M X w0 l L fun a w => (Code.region id all.toArray true).wp P (Qs N ES R) a w :=
 fun _ _ H hS => w_draw (pkv q) ks _ (pko q) H hm hB he (pk_all hS q) fun _ _ H' hb => h _ _ H' (hS.below hb)
theorem t_b {i : Nat} (j : Nat) (ks : List Nat) (vs : List Value) (q : List (Pk (SH M X w0 L))) (h : T D n M X w0 (fz ks vs) L fun a w => wpList P all.toArray Q (all.drop j) a w)
  (he : evj P n all i j (pkv q) l ks = some (fz ks vs, pko q) := by kernel_rfl) (hij : Nat.ble i j = true := by rfl) : T D n M X w0 l L fun a w => wpList P all.toArray Q (all.drop i) a w :=
 fun _ _ H hS => wl_batch i j (pkv q) ks _ (pko q) H hij he (pk_all hS q) fun _ _ H' hb => h _ _ H' (hS.below hb)
theorem t_start (h : T D n M X w0 l L fun a w => wpList P all.toArray (Qs N ES R) (all.drop 0) a w) : T D n M X w0 l L fun a w => (Code.region id all.toArray false).wp P (Qs N ES R) a w :=
 fun _ _ H hS => wl_start (h _ _ H hS)
theorem t_starts {y : Code} (h : T D n M X w0 l L fun a w => wpList P all.toArray (Qs (fun a w => y.wp P (Qs N ES R) a w) ES R) (all.drop 0) a w) : T D n M X w0 l L fun a w => (Code.seq (.region id all.toArray false) y).wp P (Qs N ES R) a w :=
 fun _ _ H hS => w_seq (wl_start (h _ _ H hS))
theorem t_end {i : Nat} (h : T D n M X w0 l L N) (hi : Nat.ble all.length i = true := by rfl) : T D n M X w0 l L fun a w => wpList P all.toArray (Qs N ES R) (all.drop i) a w :=
 fun _ _ H hS => wl_end hi (h _ _ H hS)
theorem t_seq {x y : Code} (h : T D n M X w0 l L fun a w => x.wp P (Qs (fun a w => y.wp P (Qs N ES R) a w) ES R) a w) : T D n M X w0 l L fun a w => (Code.seq x y).wp P (Qs N ES R) a w :=
 fun _ _ H hS => w_seq (h _ _ H hS)
theorem t_skip (h : T D n M X w0 l L N) : T D n M X w0 l L fun a w => Code.skip.wp P (Qs N ES R) a w := fun _ _ H hS => w_skip (h _ _ H hS)
theorem t_block {i : Nat} {c : Code} (h : T D n M X w0 l L fun a w => c.wp P (Qs N ((i, N) :: ES) R) a w) : T D n M X w0 l L fun a w => (Code.block i c).wp P (Qs N ES R) a w := fun _ _ H hS => w_block (h _ _ H hS)
theorem t_ret (h : T D n M X w0 l L R) : T D n M X w0 l L fun a w => Code.ret.wp P (Qs N ES R) a w := fun _ _ H hS => w_ret (h _ _ H hS)
theorem t_exit {i : Nat} {E : Post} (h : T D n M X w0 l L E) (hi : lkE ES i = some E := by rfl) : T D n M X w0 l L fun a w => (Code.exit i).wp P (Qs N ES R) a w := fun _ _ H hS => w_exit hi (h _ _ H hS)
theorem t_if {c : Operand} {x y : Code} {t : Bool} (h1 : t = true → T D n M X w0 l L fun a w => x.wp P (Qs N ES R) a w) (h2 : t = false → T D n M X w0 l L fun a w => y.wp P (Qs N ES R) a w) (hc : ev l [] c = some (.bool t) := by rfl) :
  T D n M X w0 l L fun a w => (Code.cond c x y).wp P (Qs N ES R) a w := fun _ _ H hS => w_if H hc (fun h => h1 h _ _ H hS) (fun h => h2 h _ _ H hS)
theorem t_im {α : Type} {c : Operand} {x y : Code} {t : Bool} {p q r : α} (hm : cond t p q = r) (h1 : p = r → T D n M X w0 l L fun a w => x.wp P (Qs N ES R) a w) (h2 : q = r → T D n M X w0 l L fun a w => y.wp P (Qs N ES R) a w) (hc : ev l [] c = some (.bool t) := by rfl) :
  T D n M X w0 l L fun a w => (Code.cond c x y).wp P (Qs N ES R) a w := fun _ _ H hS => w_if H hc (fun h => h1 (bT h hm) _ _ H hS) (fun h => h2 (bF h hm) _ _ H hS)
theorem t_i1 {α : Type} {c : Operand} {x y : Code} {t : Bool} {p : Option α} {r : α} (hm : cond t p none = some r) (h1 : p = some r → T D n M X w0 l L fun a w => x.wp P (Qs N ES R) a w) (hc : ev l [] c = some (.bool t) := by rfl) :
  T D n M X w0 l L fun a w => (Code.cond c x y).wp P (Qs N ES R) a w := t_im hm h1 (fun h => noneE h) hc
theorem t_i2 {α : Type} {c : Operand} {x y : Code} {t : Bool} {q : Option α} {r : α} (hm : cond t none q = some r) (h2 : q = some r → T D n M X w0 l L fun a w => y.wp P (Qs N ES R) a w) (hc : ev l [] c = some (.bool t) := by rfl) :
  T D n M X w0 l L fun a w => (Code.cond c x y).wp P (Qs N ES R) a w := t_im hm (fun h => noneE h) h2 hc
theorem t_sel (ks : List Nat) (h : T D n M X w0 l (selL L ks) N) (hk : okP L ks = true := by rfl) : T D n M X w0 l L N := fun _ _ H hS => h _ _ H (hS.sel ks hk)
theorem t_nil {α : Type} (E : TypeId) (Y : Ty α) (h : T D n M X w0 l (.own E Y ([] : List α) .nil :: L) N) : T D n M X w0 l L N := fun _ _ H hS => h _ _ H (hS.addNil E Y)
theorem t_frz {α : Type} {E : TypeId} {Y : Ty α} {q : List α} {g : Gh} (ks : List Nat) (h : T D n M X w0 l (.im Y q g :: (selL L ks).tail) N) (hL : selL L ks = .own E Y q g :: (selL L ks).tail := by rfl) (hk : okP L ks = true := by rfl) : T D n M X w0 l L N :=
 fun _ _ H hS => h _ _ H (SH.frz1 (by rw [← hL]; exact hS.sel ks hk))
def Cu (D : List Deferred) (n : Nat) (M : Av) (X : List Nat) (w0 : World) (l : SF) (L : List Ent) : Post := fun a w => FrG D n l a ∧ SH M X w0 L w
theorem t_cut {x y : Code} (ks : List Nat) (vs : List Value) (L' : List Ent) (h : T D n M X w0 l L fun a w => x.wp P (Qs (Cu D n M X w0 (fz ks vs) L') ES R) a w) (h2 : T D n M X w0 (fz ks vs) L' fun a w => y.wp P (Qs N ES R) a w) :
  T D n M X w0 l L fun a w => (Code.seq x y).wp P (Qs N ES R) a w := fun _ _ H hS => w_cut _ (h _ _ H hS) fun a w h => h2 a w h.1 h.2
theorem t_e {l' : SF} {L' : List Ent} (ks : List Nat) (hl : keep l ks = some l' := by kernel_rfl) (hL : L = L' := by rfl) : T D n M X w0 l L (Cu D n M X w0 l' L') := fun _ _ H hS => ⟨FrG.keep H hl, by subst hL; exact hS⟩
def Cg {γ : Type} (D : List Deferred) (n : Nat) (M : Av) (X : List Nat) (w0 : World) (l : γ → SF) (L : γ → List Ent) : Post := fun a w => ∃ g, FrG D n (l g) a ∧ SH M X w0 (L g) w
theorem t_cutg {γ : Type} {x y : Code} (ks : List Nat) (vs : γ → List Value) (L' : γ → List Ent) (h : T D n M X w0 l L fun a w => x.wp P (Qs (Cg D n M X w0 (fun g => fz ks (vs g)) L') ES R) a w) (h2 : ∀ g, T D n M X w0 (fz ks (vs g)) (L' g) fun a w => y.wp P (Qs N ES R) a w) :
  T D n M X w0 l L fun a w => (Code.seq x y).wp P (Qs N ES R) a w := fun _ _ H hS => w_cut _ (h _ _ H hS) fun a w ⟨g, h⟩ => h2 g a w h.1 h.2
theorem t_eg {γ : Type} {l' : γ → SF} {L' : γ → List Ent} (g : γ) (ks : List Nat) (hl : keep l ks = some (l' g) := by kernel_rfl) (hL : L = L' g := by rfl) : T D n M X w0 l L (Cg D n M X w0 l' L') := fun _ _ H hS => ⟨g, FrG.keep H hl, by rw [← hL]; exact hS⟩
theorem t_m {γ : Type} {i d : Nat} {o : Oper} {F : γ → Value} {E : γ → List Ent} (kt rt ks : List Nat) (vs : List Value)
  (hs : ∀ a w, FrG D n l a → S0 (AvL M (selL L rt)) (selL L kt) w → Stp P o a w fun v w' => ∃ g, v = F g ∧ SH (AvL M (selL L rt)) (fpl (selL L kt)) w (E g) w')
  (h : ∀ g, T D n M X w0 ((d, [], F g) :: fz ks vs) (E g ++ selL L rt) fun a w => wpList P all.toArray Q (all.drop (i + 1)) a w)
  (ho : all[i]? = some o := by rfl) (hg : o.guard = none := by rfl) (hdo : o.dst = some d := by rfl) (hd : Nat.blt d n = true := by rfl) (hk : ∀ v, keep (upd l d [] v) (d :: ks) = some ((d, [], v) :: fz ks vs) := by exact fun _ => rfl)
  (h1 : okP L kt = true := by rfl) (h2 : okX L rt kt = true := by rfl) (h3 : okP L rt = true := by rfl) : T D n M X w0 l L fun a w => wpList P all.toArray Q (all.drop i) a w :=
 fun _ w H hS => m_stp (d :: ks) _ H ho hg hdo hd (hs _ w H (hS.hand kt rt h1 h2)) hk fun _ _ _ H' ⟨g, e, hq⟩ => h g _ _ (e ▸ H') (hS.join kt rt h3 h2 hq)
theorem t_mv {i d : Nat} {o : Oper} {v : Value} {E : List Ent} (kt rt ks : List Nat) (vs : List Value)
  (hs : ∀ a w, FrG D n l a → S0 (AvL M (selL L rt)) (selL L kt) w → Stp P o a w fun u w' => u = v ∧ SH (AvL M (selL L rt)) (fpl (selL L kt)) w E w')
  (h : T D n M X w0 ((d, [], v) :: fz ks vs) (E ++ selL L rt) fun a w => wpList P all.toArray Q (all.drop (i + 1)) a w)
  (ho : all[i]? = some o := by rfl) (hg : o.guard = none := by rfl) (hdo : o.dst = some d := by rfl) (hd : Nat.blt d n = true := by rfl) (hk : ∀ v, keep (upd l d [] v) (d :: ks) = some ((d, [], v) :: fz ks vs) := by exact fun _ => rfl)
  (h1 : okP L kt = true := by rfl) (h2 : okX L rt kt = true := by rfl) (h3 : okP L rt = true := by rfl) : T D n M X w0 l L fun a w => wpList P all.toArray Q (all.drop i) a w :=
 fun _ w H hS => m_stp (d :: ks) _ H ho hg hdo hd (hs _ w H (hS.hand kt rt h1 h2)) hk fun _ _ _ H' ⟨e, hq⟩ => h _ _ (e ▸ H') (hS.join kt rt h3 h2 hq)
theorem t_m0 {i : Nat} {o : Oper} {E : List Ent} (kt rt ks : List Nat) (vs : List Value)
  (hs : ∀ a w, FrG D n l a → S0 (AvL M (selL L rt)) (selL L kt) w → Stp P o a w fun _ w' => SH (AvL M (selL L rt)) (fpl (selL L kt)) w E w')
  (h : T D n M X w0 (fz ks vs) (E ++ selL L rt) fun a w => wpList P all.toArray Q (all.drop (i + 1)) a w)
  (ho : all[i]? = some o := by rfl) (hg : o.guard = none := by rfl) (hdo : o.dst = none := by rfl) (hk : keep l ks = some (fz ks vs) := by rfl)
  (h1 : okP L kt = true := by rfl) (h2 : okX L rt kt = true := by rfl) (h3 : okP L rt = true := by rfl) : T D n M X w0 l L fun a w => wpList P all.toArray Q (all.drop i) a w :=
 fun _ w H hS => m_stp0 ks _ H ho hg hdo (hs _ w H (hS.hand kt rt h1 h2)) hk fun _ _ H' ⟨_, hq⟩ => h _ _ H' (hS.join kt rt h3 h2 hq)
end
section
variable {D : List Deferred} {n : Nat} {M : Av} {X : List Nat} {w0 : World} {l : SF} {L : List Ent} {N R : Post} {ES : List (Nat × Post)} {P : Program} {Q : Exit → Act → World → Prop} {all : List Oper} {id : Nat}
end
def supF (all : List Oper) (vs : List Value) (i : Nat) : List Nat → SF
 | [] => []
 | j :: r => match Nat.beq j i, dstO all j with
  | false, some d => (d, [], vs.getD j undef) :: supF all vs i r
  | _, _ => supF all vs i r
theorem supF_ok {D : List Deferred} {n : Nat} {base : SF} {all : List Oper} {vs : List Value} {i : Nat} {a : Act} (H : FrG D n base a) : ∀ l : List Nat, (∀ j ∈ l, j ≠ i → ∀ d, dstO all j = some d → a.tmps[d]? = some (vs.getD j undef)) → FrG D n (supF all vs i l ++ base) a
 | [], _ => H
 | j :: r, h => by
  have ih := supF_ok H r fun k hk => h k (List.mem_cons_of_mem _ hk)
  unfold supF
  split
  ·rename_i d hj hd
   exact ih.add (h j List.mem_cons_self (Nat.ne_of_beq_eq_false hj) d hd)
  ·exact ih
section
variable {P : Program} {n N : Nat} {base : SF} {all : List Oper} {vals : Gm → List Value} {ress : Gm → List (List Ent)} {use cons supp : List (List Nat)} {old : List (Nat × Nat × Value)} {L : List Ent} {i j : Nat}
theorem lh (h : ∀ y, (vals y).getD j undef = (vals (rsY (supp.getD j []) y)).getD j undef ∧ (ress y).getD j [] = (ress (rsY (supp.getD j []) y)).getD j [] := by exact fun _ => ⟨rfl, rfl⟩) :
  ∀ (y : Gm) (i : Nat) (g : Nat → Gh), i ∉ supp.getD j [] → (vals (updC y i g)).getD j undef = (vals y).getD j undef ∧ (ress (updC y i g)).getD j [] = (ress y).getD j [] := by
 intro y i g hi
 have e : rsY (supp.getD j []) (updC y i g) = rsY (supp.getD j []) y := by
  funext k
  unfold rsY
  cases hb : memB (supp.getD j []) k with
  | false => rfl
  | true => simp only [cond_true]; exact updC_out hi hb
 rw [(h (updC y i g)).1, (h (updC y i g)).2, e, ← (h y).1, ← (h y).2]
 exact ⟨rfl, rfl⟩
def rsOk (vals : Gm → List Value) (ress : Gm → List (List Ent)) (supp : List (List Nat)) (j : Nat) : Prop := ∀ y, (vals y).getD j undef = (vals (rsY (supp.getD j []) y)).getD j undef ∧ (ress y).getD j [] = (ress (rsY (supp.getD j []) y)).getD j []
theorem locs (h : AllN N 0 (rsOk vals ress supp)) : AllN N 0 fun j => ∀ (y : Gm) (i : Nat) (g : Nat → Gh), i ∉ supp.getD j [] → (vals (updC y i g)).getD j undef = (vals y).getD j undef ∧ (ress (updC y i g)).getD j [] = (ress y).getD j [] :=
 AllN.imp (fun _ h => lh h) h
def obH : List Ob → Option Ob
 | [] => none
 | o :: _ => some o
theorem se (q : ∀ (y : Gm) (M' : Av), List (Pk fun w => S0 M' (resOf N ress L y (use.getD i [])) w))
  (he : ∀ (y : Gm) (M' : Av), (all[i]?).bind (fun o => stepO P (supF all (vals y) i (supp.getD i []) ++ base) [] o.op (pkv (q y M'))) = some ⟨(vals (updC y i (gL []))).getD i undef, [], obH (pko (q y M'))⟩ := by intros; kernel_rfl)
  (hr : ∀ y, (ress y).getD i [] = [] := by exact fun _ => rfl) (hc : ((use.getD i []).filter fun j => !(memB (cons.getD i []) j)) = use.getD i [] := by rfl) :
  ∀ o, all[i]? = some o → ∀ a' w' y M', FrG [] n base a' → (∀ j ∈ supp.getD i [], j ≠ i → ∀ d, dstO all j = some d → a'.tmps[d]? = some ((vals y).getD j undef)) → (∀ (k : Nat) e, old[k]? = some e → (Nat.beq e.2.1 i || reach all N e.2.1 i) = true → a'.tmps[e.1]? = some e.2.2) → S0 M' (resOf N ress L y (use.getD i [])) w' →
   Stp P (ung o) a' w' fun v w2 => ∃ g : Nat → Gh, (∀ d, dstO all i = some d → v = (vals (updC y i g)).getD i undef) ∧ SH M' (fpl (resOf N ress L y (use.getD i []))) w' ((ress (updC y i g)).getD i [] ++ resOf N ress L y ((use.getD i []).filter fun j => !(memB (cons.getD i []) j))) w2 := by
 intro o ho a' w' y M' Hb hv _ hS
 have h := he y M'
 rw [ho, Option.bind_some] at h
 obtain ⟨d, op, ty, pos, after, gd⟩ := o
 refine Stp.mono (o_evs (o := ⟨d, op, ty, pos, after, none⟩) (pkv (q y M')) _ _ [] (supF_ok Hb _ hv) rfl h fun ob e => ?_) fun v w2 hq => ⟨gL [], fun _ _ => hq.1, ?_⟩
 ·have h1 := pk_all hS (q y M')
  cases hp : pko (q y M') with
  | nil => rw [hp] at e; cases e
  | cons x r => rw [hp] at e h1; cases e; exact h1.1
 ·rw [hr, hc, List.nil_append]
  exact hS.below hq.2.below
theorem se0 (he : ∀ (y : Gm), (all[i]?).bind (fun o => stepO P (supF all (vals y) i (supp.getD i []) ++ base) [] o.op []) = some ⟨(vals (updC y i (gL []))).getD i undef, [], none⟩ := by intros; kernel_rfl)
  (hr : ∀ y, (ress y).getD i [] = [] := by exact fun _ => rfl) (hc : ((use.getD i []).filter fun j => !(memB (cons.getD i []) j)) = use.getD i [] := by rfl) :
  ∀ o, all[i]? = some o → ∀ a' w' y M', FrG [] n base a' → (∀ j ∈ supp.getD i [], j ≠ i → ∀ d, dstO all j = some d → a'.tmps[d]? = some ((vals y).getD j undef)) → (∀ (k : Nat) e, old[k]? = some e → (Nat.beq e.2.1 i || reach all N e.2.1 i) = true → a'.tmps[e.1]? = some e.2.2) → S0 M' (resOf N ress L y (use.getD i [])) w' →
   Stp P (ung o) a' w' fun v w2 => ∃ g : Nat → Gh, (∀ d, dstO all i = some d → v = (vals (updC y i g)).getD i undef) ∧ SH M' (fpl (resOf N ress L y (use.getD i []))) w' ((ress (updC y i g)).getD i [] ++ resOf N ress L y ((use.getD i []).filter fun j => !(memB (cons.getD i []) j))) w2 :=
 se (fun _ _ => []) (fun y _ => he y) hr hc
end
theorem w_dS {P : Program} {n id : Nat} {all : List Oper} {a : Act} {w wE : World} {base : SF} {M : Av} {X : List Nat} {L : List Ent} {N' R' : Post} {ES : List (Nat × Post)} (N m : Nat) (vals : Gm → List Value) (ress : Gm → List (List Ent)) (use cons supp : List (List Nat)) (old : List (Nat × Nat × Value))
  (H : FrG [] n base a) (hold : ∀ (k : Nat) e, old[k]? = some e → a.tmps[e.1]? = some e.2.2) (hoo : okOld N all old = true) (hS : SH M X wE L w) (hm : P.follows .mixedOrders = true) (hN : all.length = N) (hL : L.length = m) (hok : okAllO n base all = true) (hor : okOrd all = true) (hus : okUse N m all use cons supp = true) (hgdA : AllN N 0 fun i => gdOk all vals supp i ((all[i]?).bind (·.guard)))
  (hstepA : AllN N 0 fun i => ∀ o, all[i]? = some o → ∀ a' w' y M', FrG [] n base a' → (∀ j ∈ supp.getD i [], j ≠ i → ∀ d, dstO all j = some d → a'.tmps[d]? = some ((vals y).getD j undef)) → (∀ (k : Nat) e, old[k]? = some e → (Nat.beq e.2.1 i || reach all N e.2.1 i) = true → a'.tmps[e.1]? = some e.2.2) → S0 M' (resOf N ress L y (use.getD i [])) w' →
   Stp P (ung o) a' w' fun v w2 => ∃ g : Nat → Gh, (∀ d, dstO all i = some d → v = (vals (updC y i g)).getD i undef) ∧ SH M' (fpl (resOf N ress L y (use.getD i []))) w' ((ress (updC y i g)).getD i [] ++ resOf N ress L y ((use.getD i []).filter fun j => !(memB (cons.getD i []) j))) w2)
  (hK : ∀ a' w' y, FrG [] n base a' → (∀ i d, dstO all i = some d → a'.tmps[d]? = some ((vals y).getD i undef)) → SH M X wE (resOf N ress L y (finL N m cons)) w' → N' a' w') (hl : AllN N 0 (rsOk vals ress supp) := by repeat (first | exact trivial | refine And.intro (fun _ => ⟨rfl, rfl⟩) ?_)) : (Code.region id all.toArray true).wp P (Qs N' ES R') a w :=
 w_drawS N m vals ress use cons supp old H hold hoo hS hm hN hL hok hor hus hgdA (locs hl) hstepA hK
theorem s_dS {P : Program} {n id : Nat} {all : List Oper} {a : Act} {w wE : World} {base : SF} {M : Av} {X : List Nat} {L : List Ent} {N' R' : Post} {ES : List (Nat × Post)} {z : Code} (N m : Nat) (vals : Gm → List Value) (ress : Gm → List (List Ent)) (use cons supp : List (List Nat)) (old : List (Nat × Nat × Value))
  (H : FrG [] n base a) (hold : ∀ (k : Nat) e, old[k]? = some e → a.tmps[e.1]? = some e.2.2) (hoo : okOld N all old = true) (hS : SH M X wE L w) (hm : P.follows .mixedOrders = true) (hN : all.length = N) (hL : L.length = m) (hok : okAllO n base all = true) (hor : okOrd all = true) (hus : okUse N m all use cons supp = true) (hgdA : AllN N 0 fun i => gdOk all vals supp i ((all[i]?).bind (·.guard)))
  (hstepA : AllN N 0 fun i => ∀ o, all[i]? = some o → ∀ a' w' y M', FrG [] n base a' → (∀ j ∈ supp.getD i [], j ≠ i → ∀ d, dstO all j = some d → a'.tmps[d]? = some ((vals y).getD j undef)) → (∀ (k : Nat) e, old[k]? = some e → (Nat.beq e.2.1 i || reach all N e.2.1 i) = true → a'.tmps[e.1]? = some e.2.2) → S0 M' (resOf N ress L y (use.getD i [])) w' →
   Stp P (ung o) a' w' fun v w2 => ∃ g : Nat → Gh, (∀ d, dstO all i = some d → v = (vals (updC y i g)).getD i undef) ∧ SH M' (fpl (resOf N ress L y (use.getD i []))) w' ((ress (updC y i g)).getD i [] ++ resOf N ress L y ((use.getD i []).filter fun j => !(memB (cons.getD i []) j))) w2)
  (hK : ∀ a' w' y, FrG [] n base a' → (∀ i d, dstO all i = some d → a'.tmps[d]? = some ((vals y).getD i undef)) → SH M X wE (resOf N ress L y (finL N m cons)) w' → z.wp P (Qs N' ES R') a' w') (hl : AllN N 0 (rsOk vals ress supp) := by repeat (first | exact trivial | refine And.intro (fun _ => ⟨rfl, rfl⟩) ?_)) : (Code.seq (.region id all.toArray true) z).wp P (Qs N' ES R') a w :=
 s_drawS N m vals ress use cons supp old H hold hoo hS hm hN hL hok hor hus hgdA (locs hl) hstepA hK
theorem s_dG {P : Program} {n id : Nat} {all : List Oper} {a : Act} {w wE : World} {base : SF} {M : Av} {X : List Nat} {L : List Ent} {N' R' : Post} {ES : List (Nat × Post)} {z : Code} (N m : Nat) (vals : Gm → List Value) (ress : Gm → List (List Ent)) (use cons supp : List (List Nat)) (old : List (Nat × Nat × Value))
  (H : FrG [] n base a) (hold : ∀ (k : Nat) e, old[k]? = some e → a.tmps[e.1]? = some e.2.2) (hoo : okOld N all old = true) (hS : SH M X wE L w) (hm : P.follows .mixedOrders = true) (hN : all.length = N) (hL : L.length = m) (hok : okAllO n base all = true) (hor : okOrd all = true) (hus : okUse N m all use cons supp = true)
  (hA : AllN N 0 fun i => gdOff all vals ress use supp i ((all[i]?).bind (·.guard)) ∨ (gdOk all vals supp i ((all[i]?).bind (·.guard)) ∧ ∀ o, all[i]? = some o → ∀ a' w' y M', FrG [] n base a' → (∀ j ∈ supp.getD i [], j ≠ i → ∀ d, dstO all j = some d → a'.tmps[d]? = some ((vals y).getD j undef)) → (∀ (k : Nat) e, old[k]? = some e → (Nat.beq e.2.1 i || reach all N e.2.1 i) = true → a'.tmps[e.1]? = some e.2.2) → S0 M' (resOf N ress L y (use.getD i [])) w' →
   Stp P (ung o) a' w' fun v w2 => ∃ g : Nat → Gh, (∀ d, dstO all i = some d → v = (vals (updC y i g)).getD i undef) ∧ SH M' (fpl (resOf N ress L y (use.getD i []))) w' ((ress (updC y i g)).getD i [] ++ resOf N ress L y ((use.getD i []).filter fun j => !(memB (cons.getD i []) j))) w2))
  (hK : ∀ a' w' y, FrG [] n base a' → (∀ i d, dstO all i = some d → a'.tmps[d]? = some ((vals y).getD i undef)) → SH M X wE (resOf N ress L y (finL N m cons)) w' → z.wp P (Qs N' ES R') a' w') (hl : AllN N 0 (rsOk vals ress supp) := by repeat (first | exact trivial | refine And.intro (fun _ => ⟨rfl, rfl⟩) ?_)) : (Code.seq (.region id all.toArray true) z).wp P (Qs N' ES R') a w :=
 s_drawG N m vals ress use cons supp old H hold hoo hS hm hN hL hok hor hus (locs hl) hA hK
section
variable {M : Av} {X : List Nat} {w0 : World} {L : List Ent}
def ki (k : Nat) {α : Type} {Y : Ty α} {q : List α} {g : Gh} {ix : Int} (h : 0 ≤ ix ∧ ix < ln q) (hk : L[k]? = some (.im Y q g) := by rfl) : Pk (SH M X w0 L) := ⟨none, fun _ => oka g.a ∧ 0 ≤ ix ∧ ix < ln q, fun _ hS => (hS.im k hk).oki h⟩
def kj (k j : Nat) {α : Type} [Inhabited α] {Y : Ty α} {q : List α} {g : Gh} {ix : Int} {v : Value} (h : 0 ≤ ix ∧ ix < ln q) (hk : L[k]? = some (.im Y q g) := by rfl) (hv : (Y.enc (gi q ix) (g.s ix.toNat))[j]? = some v := by rfl) : Pk (SH M X w0 L) := ⟨some v, at1 ⟨ab g.a, ao g.a + ix.toNat * Y.z + j, none⟩ v, fun _ hS => (hS.im k hk).at1 h j hv⟩
def kI (k : Nat) {α : Type} {E : TypeId} {Y : Ty α} {q : List α} {g : Gh} {ix : Int} (h : 0 ≤ ix ∧ ix < ln q) (hk : L[k]? = some (.own E Y q g) := by rfl) : Pk (SH M X w0 L) := ⟨none, fun _ => oka g.a ∧ 0 ≤ ix ∧ ix < ln q, fun _ hS => (hS.osl k hk).oki h⟩
def kJ (k j : Nat) {α : Type} [Inhabited α] {E : TypeId} {Y : Ty α} {q : List α} {g : Gh} {ix : Int} {v : Value} (h : 0 ≤ ix ∧ ix < ln q) (hk : L[k]? = some (.own E Y q g) := by rfl) (hv : (Y.enc (gi q ix) (g.s ix.toNat))[j]? = some v := by rfl) : Pk (SH M X w0 L) := ⟨some v, at1 ⟨ab g.a, ao g.a + ix.toNat * Y.z + j, none⟩ v, fun _ hS => (hS.osl k hk).at1 h j hv⟩
def kgi (c : Prop) (k : Nat) {α : Type} {Y : Ty α} {q : List α} {g : Gh} {ix : Int} (h : c → 0 ≤ ix ∧ ix < ln q) (hk : L[k]? = some (.im Y q g) := by rfl) : Pk (SH M X w0 L) := ⟨none, fun _ => c → oka g.a ∧ 0 ≤ ix ∧ ix < ln q, fun _ hS hc => (hS.im k hk).oki (h hc)⟩
def kgj (c : Prop) (k j : Nat) {α : Type} [Inhabited α] {Y : Ty α} {q : List α} {g : Gh} {ix : Int} {v : Value} (h : c → 0 ≤ ix ∧ ix < ln q) (hk : L[k]? = some (.im Y q g) := by rfl) (hv : (Y.enc (gi q ix) (g.s ix.toNat))[j]? = some v := by rfl) : Pk (SH M X w0 L) := ⟨some v, fun w => c → at1 ⟨ab g.a, ao g.a + ix.toNat * Y.z + j, none⟩ v w, fun _ hS hc => (hS.im k hk).at1 (h hc) j hv⟩
def kgI (c : Prop) (k : Nat) {α : Type} {E : TypeId} {Y : Ty α} {q : List α} {g : Gh} {ix : Int} (h : c → 0 ≤ ix ∧ ix < ln q) (hk : L[k]? = some (.own E Y q g) := by rfl) : Pk (SH M X w0 L) := ⟨none, fun _ => c → oka g.a ∧ 0 ≤ ix ∧ ix < ln q, fun _ hS hc => (hS.osl k hk).oki (h hc)⟩
def kgJ (c : Prop) (k j : Nat) {α : Type} [Inhabited α] {E : TypeId} {Y : Ty α} {q : List α} {g : Gh} {ix : Int} {v : Value} (h : c → 0 ≤ ix ∧ ix < ln q) (hk : L[k]? = some (.own E Y q g) := by rfl) (hv : (Y.enc (gi q ix) (g.s ix.toNat))[j]? = some v := by rfl) : Pk (SH M X w0 L) := ⟨some v, fun w => c → at1 ⟨ab g.a, ao g.a + ix.toNat * Y.z + j, none⟩ v w, fun _ hS hc => (hS.osl k hk).at1 (h hc) j hv⟩
def kgb (c : Prop) (k o : Nat) {b : Nat} {cs : List Value} {v : Value} (hk : L[k]? = some (.blk b cs) := by rfl) (hv : cs[o]? = some v := by rfl) : Pk (SH M X w0 L) := ⟨some v, fun w => c → at1 ⟨b, o, none⟩ v w, fun _ h _ => (h.bk k hk).at1 hv⟩
end
section
variable {n : Nat} {M : Av} {X : List Nat} {w0 : World} {l : SF} {L : List Ent} {P : Program} {f : FuncId} {fn : Func} {c : Code} {args : List Value}
def Pn (v : Value) (E : List Ent) (M : Av) (X : List Nat) (w : World) : Ending → World → Prop := fun e w' => ∃ u, e = .returned u ∧ u = v ∧ SH M X w E w'
def Pm {γ : Type} (F : γ → Value) (E : γ → List Ent) (M : Av) (X : List Nat) (w : World) : Ending → World → Prop := fun e w' => ∃ u, e = .returned u ∧ ∃ g, u = F g ∧ SH M X w (E g) w'
def DoesM {γ : Type} (P : Program) (f : FuncId) (args : Array Value) (L : List Ent) (F : γ → Value) (E : γ → List Ent) : Prop := ∀ (M : Av) (w : World), S0 M L w → DoesX P f args w fun v w' => ∃ g, v = F g ∧ SH M (fpl L) w (E g) w'
def DoesN (P : Program) (f : FuncId) (args : Array Value) (L : List Ent) (v : Value) (E : List Ent) : Prop := ∀ (M : Av) (w : World), S0 M L w → DoesX P f args w fun u w' => u = v ∧ SH M (fpl L) w E w'
theorem t_c {γ : Type} {i d : Nat} {x : Operand} {ar : Array Operand} {ats : Array TypeId} {ty : TypeId} {pos : String} {after : Array Edge} {f : FuncId} {av first as caps : List Value} {F : γ → Value} {E : γ → List Ent} {L' : List Ent} {D : List Deferred} {all : List Oper} {N : Exit → Act → World → Prop} (kt rt ks : List Nat) (vs : List Value) (hc : DoesM P f ⟨av⟩ L' F E)
  (h : ∀ g, T D n M X w0 ((d, [], F g) :: fz ks vs) (E g ++ selL L rt) fun a w => wpList P all.toArray N (all.drop (i + 1)) a w)
  (ho : all[i]? = some ⟨some d, .call ⟨.value x, ar, ats⟩, ty, pos, after, none⟩ := by rfl) (hx : callee l [] x = some (f, first, caps) := by rfl) (ha : evs l [] ar.toList = some as := by rfl) (hv : first ++ as ++ caps = av := by rfl) (hL : selL L kt = L' := by rfl)
  (hd : Nat.blt d n = true := by rfl) (hk : ∀ v, keep (upd l d [] v) (d :: ks) = some ((d, [], v) :: fz ks vs) := by exact fun _ => rfl)
  (h1 : okP L kt = true := by rfl) (h2 : okX L rt kt = true := by rfl) (h3 : okP L rt = true := by rfl) : T D n M X w0 l L fun a w => wpList P all.toArray N (all.drop i) a w := by
 subst hv hL
 exact t_m kt rt ks vs (fun _ _ H hS => o_callx H hx ha (hc _ _ hS)) h ho rfl rfl hd hk h1 h2 h3
theorem f_pure {v : Value} (hc : ∀ w, (callFunc f ⟨args⟩).run P w = .ok (.enter f ⟨args⟩) w) (hf : P.funcs[f]? = some fn) (hn : fn.ntmps = n)
  (h : ∀ (M : Av) (X : List Nat) (w : World), T [] n M X w (argsSF args 0) [] fun a w' => c.wp P (Qs (Rp P fn (Pn v [] M X w)) [] (Rp P fn (Pn v [] M X w))) a w') (hb : fn.body = some c := by rfl) (hl : Nat.ble args.length n = true := by rfl) : Ret P f ⟨args⟩ v :=
 retP_of hc fun w hS => calls_entryP hf hb hn hl fun _ H => h F0 (fpl []) w _ _ H hS
theorem f_read {v : Value} {w : World} (hL : S0 F0 L w ∧ fpl L = []) (hc : ∀ w, (callFunc f ⟨args⟩).run P w = .ok (.enter f ⟨args⟩) w) (hf : P.funcs[f]? = some fn) (hn : fn.ntmps = n)
  (h : ∀ (M : Av) (X : List Nat) (w : World), T [] n M X w (argsSF args 0) L fun a w' => c.wp P (Qs (Rp P fn (Pn v [] M X w)) [] (Rp P fn (Pn v [] M X w))) a w') (hb : fn.body = some c := by rfl) (hl : Nat.ble args.length n = true := by rfl) : RetB P f ⟨args⟩ v w :=
 retB_of hL hc fun w hS => calls_entryP hf hb hn hl fun _ H => h F0 (fpl L) w _ _ H hS
theorem f_mem {γ : Type} {F : γ → Value} {E : γ → List Ent} (hc : ∀ w, (callFunc f ⟨args⟩).run P w = .ok (.enter f ⟨args⟩) w) (hf : P.funcs[f]? = some fn) (hn : fn.ntmps = n)
  (h : ∀ (M : Av) (X : List Nat) (w : World), T [] n M X w (argsSF args 0) L fun a w' => c.wp P (Qs (Rp P fn (Pm F E M X w)) [] (Rp P fn (Pm F E M X w))) a w') (hb : fn.body = some c := by rfl) (hl : Nat.ble args.length n = true := by rfl) : DoesM P f ⟨args⟩ L F E :=
 fun M w hS => ⟨hc, calls_entryP hf hb hn hl fun _ H => h M (fpl L) w _ _ H hS⟩
theorem f_men {v : Value} {E : List Ent} (hc : ∀ w, (callFunc f ⟨args⟩).run P w = .ok (.enter f ⟨args⟩) w) (hf : P.funcs[f]? = some fn) (hn : fn.ntmps = n)
  (h : ∀ (M : Av) (X : List Nat) (w : World), T [] n M X w (argsSF args 0) L fun a w' => c.wp P (Qs (Rp P fn (Pn v E M X w)) [] (Rp P fn (Pn v E M X w))) a w') (hb : fn.body = some c := by rfl) (hl : Nat.ble args.length n = true := by rfl) : DoesN P f ⟨args⟩ L v E :=
 fun M w hS => ⟨hc, calls_entryP hf hb hn hl fun _ H => h M (fpl L) w _ _ H hS⟩
def Rs (P : Program) (fn : Func) (l : SF) (L : List Ent) (v : Value) : Prop := ∀ n M X w0 a w (R : Ending → World → Prop), FrG [] n l a → SH M X w0 L w → R (.returned v) w → Rp P fn R a w
theorem t_n {E : List Ent} {v : Value} (ks : List Nat) (hr : Rs P fn l L v) (hE : selL L ks = E := by rfl) (hk : okP L ks = true := by rfl) : T [] n M X w0 l L (Rp P fn (Pn v E M X w0)) :=
 fun _ _ H hS => hr _ _ _ _ _ _ _ H hS ⟨_, rfl, rfl, hE ▸ hS.sel ks hk⟩
theorem t_g {γ : Type} {F : γ → Value} {E : γ → List Ent} (g : γ) (ks : List Nat) (hr : Rs P fn l L (F g)) (hE : selL L ks = E g := by rfl) (hk : okP L ks = true := by rfl) : T [] n M X w0 l L (Rp P fn (Pm F E M X w0)) :=
 fun _ _ H hS => hr _ _ _ _ _ _ _ H hS ⟨_, rfl, g, rfl, hE ▸ hS.sel ks hk⟩
theorem rs0 (hr : fn.results = #[] := by rfl) : Rs P fn l L (.tuple ⟨[]⟩) := fun _ _ _ _ _ _ _ H _ hR => retR0 H hr hR
theorem rs1 {t : Nat} {v : Value} (hr : fn.results = #[.tmp t] := by rfl) (h : lke l t = some ([], v) := by rfl) : Rs P fn l L v := fun _ _ _ _ _ _ _ H _ hR => retR1 H hr h hR
theorem rs2 {t s : Nat} {v u : Value} (hr : fn.results = #[.tmp t, .tmp s] := by rfl) (h : lke l t = some ([], v) := by rfl) (h2 : lke l s = some ([], u) := by rfl) : Rs P fn l L (.tuple ⟨[v, u]⟩) := fun _ _ _ _ _ _ _ H _ hR => retR2 H hr h h2 hR
theorem rsa (k : Nat) {t b : Nat} {Y : TypeId} {cs : List Value} {d : TypeDesc} (hu : P.underlying Y = some d) (hr : fn.results = #[.cell t Y] := by rfl) (h : lke l t = some ([], .pointer (some ⟨b, 0, none⟩)) := by rfl) (hk : L[k]? = some (.blk b cs) := by rfl)
  (hd : (match d with | .struct _ | .array _ _ => true | _ => false) = true := by rfl) (hz : (P.info? Y).map (·.size) = some cs.length := by kernel_rfl) : Rs P fn l L (.agg ⟨cs⟩) := fun _ _ _ _ _ _ _ H hS hR => retR1 H hr (oneRes_agg h (hS.bk k hk) hu hd hz) hR
theorem rsav (k : Nat) {t b s : Nat} {u : Value} {Y : TypeId} {cs : List Value} {d : TypeDesc} (hu : P.underlying Y = some d) (hr : fn.results = #[.cell t Y, .tmp s] := by rfl) (h : lke l t = some ([], .pointer (some ⟨b, 0, none⟩)) := by rfl) (h2 : lke l s = some ([], u) := by rfl) (hk : L[k]? = some (.blk b cs) := by rfl)
  (hd : (match d with | .struct _ | .array _ _ => true | _ => false) = true := by rfl) (hz : (P.info? Y).map (·.size) = some cs.length := by kernel_rfl) : Rs P fn l L (.tuple ⟨[.agg ⟨cs⟩, u]⟩) := fun _ _ _ _ _ _ _ H hS hR => retR2 H hr (oneRes_agg h (hS.bk k hk) hu hd hz) h2 hR
end
section
variable {P : Program} {a : Act} {w : World} {n : Nat} {l : SF} {M : Av} {D : List Deferred}
theorem o_li {α : Type} {T : Ty α} {d : Nat} {t E : TypeId} {len : Nat} {zv : Value} {parts : Array (Nat × Operand)} {ty : TypeId} {pos : String} {after : Array Edge} {L : List Ent} (cs : List Value) (xs : List α) (gs : List (Nat → Gh)) {vs : List Value} (H : FrG D n l a) (hS : S0 M L w) (he : evs l [] (parts.toList.map (·.2)) = some vs) (hin : InnL T (AvL M L) w xs gs)
  (hu : P.underlying t = some (.slice E) := by kernel_rfl) (hz : (P.info? E).map (·.size) = some T.z := by kernel_rfl) (hzv : (P.info? E).map (·.zero) = some (some zv) := by kernel_rfl) (hlen : Nat.ble (len * T.z) 16777216 = true := by kernel_rfl) (hpos : Nat.blt 0 (len * T.z) = true := by kernel_rfl)
  (hf : Instr.fill (fun i => some (i * T.z, T.z)) ((Array.range (len * T.z)).map (zv.cells[· % zv.cells.size]!)) ((parts.toList.map (·.1)).zip vs) = some ⟨cs⟩ := by kernel_rfl) (hxs : ((zipG xs (sL gs) 0).map (encp T)).flatten = cs := by kernel_rfl) (hxl : xs.length = len := by kernel_rfl) :
  Stp P ⟨some d, .buildSlice t len parts, ty, pos, after, none⟩ a w fun v w' => ∃ g : Gh, v = .slice g.a len g.c ∧ SH M (fpl L) w [.own E T xs g] w' := o_lit cs xs gs vs H hS he hu hz hzv hlen hpos hf hxs hxl hin
end
end Go.V

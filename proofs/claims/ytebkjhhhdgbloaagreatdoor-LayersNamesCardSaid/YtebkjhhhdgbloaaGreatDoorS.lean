/-
 What lies in memory, as a list of things: what may be read alone, what the call owns, what was handed to it. Nothing here is a statement of this claim.
-/
import Derived.Test.YtebkjhhhdgbloaaGreatDoorV3
import Derived.Lib.Bytealg
namespace Go.V
open Go Go.RowKit
inductive Gh where
 | nil
 | mk (a : Option Addr) (c : Nat) (s : Nat → Nat → Gh)
def Gh.a : Gh → Option Addr
 | .nil => none
 | .mk a _ _ => a
def Gh.c : Gh → Nat
 | .nil => 0
 | .mk _ c _ => c
def Gh.s : Gh → Nat → Nat → Gh
 | .nil => fun _ _ => .nil
 | .mk _ _ s => s
instance : Inhabited Gh := ⟨.nil⟩
def gL (l : List Gh) : Nat → Gh := fun k => l.getD k .nil
def sL (l : List (Nat → Gh)) : Nat → Nat → Gh := fun i => l.getD i (fun _ => .nil)
abbrev Av := Nat → Prop
def F0 : Av := fun _ => False
structure Ty (α : Type) where
 z : Nat
 enc : α → (Nat → Gh) → List Value
 inn : Av → World → α → (Nat → Gh) → Prop
 len : ∀ x g, (enc x g).length = z
 one : ∀ x g, oneCells (enc x g) = true
 kp : ∀ {M w w' X x g}, inn M w x g → Kp X w w' → (∀ b ∈ X, M b) → inn M w' x g
 anti : ∀ {M M' w x g}, inn M w x g → (∀ b, M' b → M b) → inn M' w x g
 fresh : ∀ {M w x g}, inn M w x g → inn (fun b => M b ∨ w.heap.size ≤ b) w x g
structure SlC {α : Type} (z : Nat) (enc : α → (Nat → Gh) → List Value) (M : Av) (w : World) (l : List α) (g : Gh) : Prop where
 ok : 0 < l.length → oka g.a
 lt : 0 < l.length → ab g.a < w.heap.size
 av : 0 < l.length → ¬ M (ab g.a)
 get : ∀ i (h : i < l.length) j v, (enc l[i] (g.s i))[j]? = some v → w.cell? ⟨ab g.a, ao g.a + i * z + j, none⟩ = some v
 cp : l.length ≤ g.c
section
variable {α : Type} {z : Nat} {enc : α → (Nat → Gh) → List Value} {M M' : Av} {w w' : World} {l : List α} {g : Gh} {X : List Nat}
theorem SlC.kp (h : SlC z enc M w l g) (k : Kp X w w') (hX : ∀ b ∈ X, M b) : SlC z enc M w' l g :=
 ⟨h.ok, fun hl => Nat.lt_of_lt_of_le (h.lt hl) k.size, h.av, fun i hi j v hv => by
  have hl : 0 < l.length := by omega
  rw [World.cell?_of_block (w := w) (k.block (ab g.a) (h.lt hl) (fun hx => h.av hl (hX _ hx)))]
  exact h.get i hi j v hv, h.cp⟩
theorem SlC.anti (h : SlC z enc M w l g) (hM : ∀ b, M' b → M b) : SlC z enc M' w l g := ⟨h.ok, h.lt, fun hl hm => h.av hl (hM _ hm), h.get, h.cp⟩
theorem SlC.fresh (h : SlC z enc M w l g) : SlC z enc (fun b => M b ∨ w.heap.size ≤ b) w l g :=
 ⟨h.ok, h.lt, fun hl hm => by
  rcases hm with hm | hm
  ·exact h.av hl hm
  ·have := h.lt hl; omega, h.get, h.cp⟩
theorem SlC.nil : SlC z enc M w ([] : List α) g := ⟨fun h => by simp at h, fun h => by simp at h, fun h => by simp at h, fun i h => (by simp at h), Nat.zero_le _⟩
end
def SlG {α : Type} (T : Ty α) (M : Av) (w : World) (l : List α) (g : Gh) : Prop := SlC T.z T.enc M w l g ∧ ∀ i (h : i < l.length), T.inn M w l[i] (g.s i)
section
variable {α : Type} {T : Ty α} {M M' : Av} {w w' : World} {l : List α} {g : Gh} {X : List Nat}
theorem SlG.kp (h : SlG T M w l g) (k : Kp X w w') (hX : ∀ b ∈ X, M b) : SlG T M w' l g := ⟨h.1.kp k hX, fun i hi => T.kp (h.2 i hi) k hX⟩
theorem SlG.anti (h : SlG T M w l g) (hM : ∀ b, M' b → M b) : SlG T M' w l g := ⟨h.1.anti hM, fun i hi => T.anti (h.2 i hi) hM⟩
theorem SlG.fresh (h : SlG T M w l g) : SlG T (fun b => M b ∨ w.heap.size ≤ b) w l g := ⟨h.1.fresh, fun i hi => T.fresh (h.2 i hi)⟩
theorem SlG.nil : SlG T M w [] g := ⟨SlC.nil, fun i h => by simp at h⟩
theorem SlG.f0 (h : SlG T M w l g) : SlG T F0 w l g := h.anti fun _ h => h.elim
theorem SlG.below (h : SlG T M w l g) (hb : Below w.heap.size w w') : SlG T M w' l g := h.kp (Kp.of_below hb []) (by simp)
theorem SlG.at1 [Inhabited α] (h : SlG T M w l g) {i : Int} (hi : 0 ≤ i ∧ i < ln l) (j : Nat) {v : Value} (hv : (T.enc (gi l i) (g.s i.toNat))[j]? = some v) : V.at1 ⟨ab g.a, ao g.a + i.toNat * T.z + j, none⟩ v w := by
 have hl : i.toNat < l.length := by unfold ln at hi; omega
 have hg : gi l i = l[i.toNat] := by simp [gi, List.getD_eq_getElem?_getD, List.getElem?_eq_getElem hl]
 rw [hg] at hv
 exact ⟨h.1.get _ hl j v hv, h.1.lt (by omega)⟩
theorem SlG.atA [Inhabited α] (h : SlG T M w l g) {i : Int} (hi : 0 ≤ i ∧ i < ln l) (off : Nat) {vs : List Value} (hv : ((T.enc (gi l i) (g.s i.toNat)).drop off).take vs.length = vs) :
  V.atN (ab g.a) (ao g.a + i.toNat * T.z + off) vs 0 w := by
 refine atN_of _ 0 fun q hq => ?_
 have h1 : (((T.enc (gi l i) (g.s i.toNat)).drop off).take vs.length)[q]? = some vs[q] := by rw [hv]; exact List.getElem?_eq_getElem hq
 rw [List.getElem?_take_of_lt hq, List.getElem?_drop] at h1
 have := h.at1 hi (off + q) h1
 rw [Nat.zero_add, Nat.add_assoc]
 exact this
theorem SlG.oki (h : SlG T M w l g) {i : Int} (hi : 0 ≤ i ∧ i < ln l) : oka g.a ∧ 0 ≤ i ∧ i < ln l := ⟨h.1.ok (by unfold ln at hi; omega), hi⟩
theorem SlG.el [Inhabited α] (h : SlG T M w l g) {i : Int} (hi : 0 ≤ i ∧ i < ln l) : T.inn M w (gi l i) (g.s i.toNat) := by
 have hl : i.toNat < l.length := by unfold ln at hi; omega
 have hg : gi l i = l[i.toNat] := by simp [gi, List.getD_eq_getElem?_getD, List.getElem?_eq_getElem hl]
 rw [hg]
 exact h.2 _ hl
end
def Ty.flat {α : Type} (z : Nat) (enc : α → List Value) (hl : ∀ x, (enc x).length = z) (ho : ∀ x, oneCells (enc x) = true) : Ty α where
 z := z
 enc := fun x _ => enc x
 inn := fun _ _ _ _ => True
 len := fun x _ => hl x
 one := fun x _ => ho x
 kp := fun _ _ _ => trivial
 anti := fun _ _ => trivial
 fresh := fun _ => trivial
def tI (k : IntKind) : Ty Int := .flat 1 (fun x => [.int k x]) (fun _ => rfl) (fun _ => rfl)
def tS : Ty Str := .flat 1 (fun x => [.string ⟨⟨x⟩⟩]) (fun _ => rfl) (fun _ => rfl)
def tB : Ty Bool := .flat 1 (fun x => [.bool x]) (fun _ => rfl) (fun _ => rfl)
def Ty.sl {α : Type} (T : Ty α) : Ty (List α) where
 z := 1
 enc := fun l g => [.slice (g 0).a l.length (g 0).c]
 inn := fun M w l g => SlG T M w l (g 0)
 len := fun _ _ => rfl
 one := fun _ _ => rfl
 kp := fun h k hX => SlG.kp h k hX
 anti := fun h hM => SlG.anti h hM
 fresh := fun h => SlG.fresh h
theorem sl_inn {α : Type} {T : Ty α} {M : Av} {w : World} {x : List α} {g : Nat → Gh} (h : (Ty.sl T).inn M w x g) : SlG T M w x (g 0) := h
def zipG {α : Type} : List α → (Nat → Nat → Gh) → Nat → List (α × (Nat → Gh))
 | [], _, _ => []
 | x :: r, s, i => (x, s i) :: zipG r s (i + 1)
theorem zipG_len {α : Type} : ∀ (l : List α) (s : Nat → Nat → Gh) (i : Nat), (zipG l s i).length = l.length
 | [], _, _ => rfl
 | x :: r, s, i => by simp [zipG, zipG_len r s (i + 1)]
theorem zipG_get {α : Type} : ∀ (l : List α) (s : Nat → Nat → Gh) (i q : Nat) (h : q < (zipG l s i).length), (zipG l s i)[q] = (l[q]'(by rw [zipG_len] at h; exact h), s (i + q))
 | x :: r, s, i, 0, h => by simp [zipG]
 | x :: r, s, i, q + 1, h => by
  simp only [zipG, List.getElem_cons_succ]
  rw [zipG_get r s (i + 1) q]
  simp [Nat.add_assoc, Nat.add_comm 1 q]
theorem zipG_congr {α : Type} : ∀ (l : List α) (s s' : Nat → Nat → Gh) (i : Nat), (∀ q, q < l.length → s (i + q) = s' (i + q)) → zipG l s i = zipG l s' i
 | [], _, _, _, _ => rfl
 | x :: r, s, s', i, h => by
  simp only [zipG]
  have h0 := h 0 (by simp)
  rw [Nat.add_zero] at h0
  rw [h0, zipG_congr r s s' (i + 1) (fun q hq => by
   have := h (q + 1) (by simpa using hq)
   rwa [Nat.add_assoc, Nat.add_comm 1 q])]
def sApp (n : Nat) (s1 s2 : Nat → Nat → Gh) : Nat → Nat → Gh := fun i => if i < n then s1 i else s2 (i - n)
theorem zipG_shift {α : Type} : ∀ (l : List α) (s s' : Nat → Nat → Gh) (i j : Nat), (∀ q, s (i + q) = s' (j + q)) → zipG l s i = zipG l s' j
 | [], _, _, _, _, _ => rfl
 | x :: r, s, s', i, j, h => by
  simp only [zipG]
  have h0 := h 0
  rw [Nat.add_zero, Nat.add_zero] at h0
  rw [h0, zipG_shift r s s' (i + 1) (j + 1) (fun q => by
   have := h (q + 1)
   rwa [Nat.add_assoc, Nat.add_comm 1 q, Nat.add_assoc, Nat.add_comm 1 q])]
theorem zipG_cons {α : Type} : ∀ (l1 l2 : List α) (s : Nat → Nat → Gh) (i : Nat), zipG (l1 ++ l2) s i = zipG l1 s i ++ zipG l2 s (i + l1.length)
 | [], l2, s, i => by simp [zipG]
 | x :: r, l2, s, i => by
  simp only [List.cons_append, zipG, zipG_cons r l2 s (i + 1), List.length_cons]
  rw [Nat.add_assoc, Nat.add_comm 1 r.length]
theorem zipG_app {α : Type} (l1 l2 : List α) (s1 s2 : Nat → Nat → Gh) : zipG (l1 ++ l2) (sApp l1.length s1 s2) 0 = zipG l1 s1 0 ++ zipG l2 s2 0 := by
 rw [zipG_cons]
 congr 1
 ·exact zipG_congr _ _ _ _ fun q hq => by simp [sApp, hq]
 ·exact zipG_shift _ _ _ _ _ fun q => by
   simp only [sApp]
   rw [if_neg (by omega)]
   congr 1
   omega
def encp {α : Type} (T : Ty α) : α × (Nat → Gh) → List Value := fun p => T.enc p.1 p.2
structure OwG {α : Type} (E : TypeId) (T : Ty α) (M : Av) (w : World) (l : List α) (g : Gh) : Prop where
 ow : Ow E (encp T) T.z w g.a g.c (zipG l g.s 0)
 inn : ∀ i (h : i < l.length), T.inn M w l[i] (g.s i)
section
variable {α : Type} {E : TypeId} {T : Ty α} {M M' : Av} {w w' : World} {l : List α} {g : Gh} {X : List Nat}
theorem OwG.kp (h : OwG E T M w l g) (k : Kp X w w') (hM : ∀ b ∈ X, M b) (hX : ∀ b ∈ abl g.a, b ∉ X) : OwG E T M w' l g := ⟨h.ow.kp k hX, fun i hi => T.kp (h.inn i hi) k hM⟩
theorem OwG.anti (h : OwG E T M w l g) (hM : ∀ b, M' b → M b) : OwG E T M' w l g := ⟨h.ow, fun i hi => T.anti (h.inn i hi) hM⟩
theorem OwG.fresh (h : OwG E T M w l g) : OwG E T (fun b => M b ∨ w.heap.size ≤ b) w l g := ⟨h.ow, fun i hi => T.fresh (h.inn i hi)⟩
theorem zip_sl {α : Type} {z : Nat} {T : Ty α} {w : World} {a : Option Addr} {l : List α} {s : Nat → Nat → Gh} (h : Sl (encp T) z w a (zipG l s 0)) :
  ∀ i (h : i < l.length) j v, (T.enc l[i] (s i))[j]? = some v → w.cell? ⟨ab a, ao a + i * z + j, none⟩ = some v := fun i hi j v hv => by
 have hi' : i < (zipG l s 0).length := by rw [zipG_len]; exact hi
 refine h.get i hi' j v ?_
 rw [zipG_get]
 simpa [encp] using hv
theorem OwG.cp (h : OwG E T M w l g) : l.length ≤ g.c := by
 have hl := zipG_len l g.s 0
 rcases h.ow.row.2 with ⟨h0, h1⟩ | ⟨b, cap, cur, hv, _, _, h3, _⟩
 ·omega
 ·simp only [Value.slice.injEq] at hv
  omega
theorem OwG.sl (h : OwG E T M w l g) (hav : ∀ b ∈ abl g.a, ¬ M' b) (hM : ∀ b, M' b → M b) : SlG T M' w l g := by
 have hs := h.ow.sl (fun (p : α × (Nat → Gh)) => T.len p.1 p.2)
 refine ⟨⟨fun hl => hs.ok (by rw [zipG_len]; exact hl), fun hl => hs.lt (by rw [zipG_len]; exact hl), fun hl => hav _ (h.ow.mem (by rw [zipG_len]; exact hl)), zip_sl hs, h.cp⟩, fun i hi => T.anti (h.inn i hi) hM⟩
theorem OwG.sl0 (h : OwG E T M w l g) : SlG T F0 w l g := h.sl (fun _ _ h => h.elim) (fun _ h => h.elim)
theorem OwG.el [Inhabited α] (h : OwG E T M w l g) {i : Int} (hi : 0 ≤ i ∧ i < V.ln l) : T.inn M w (gi l i) (g.s i.toNat) := by
 have hl : i.toNat < l.length := by unfold V.ln at hi; omega
 have hg : gi l i = l[i.toNat] := by simp [gi, List.getD_eq_getElem?_getD, List.getElem?_eq_getElem hl]
 rw [hg]
 exact h.inn _ hl
theorem OwG.nil : OwG E T M w [] .nil := ⟨Ow.nil _ _ _ _, fun i h => by simp at h⟩
theorem SlG.zip (h : SlG T M w l g) : Sl (encp T) T.z w g.a (zipG l g.s 0) := by
 refine ⟨fun hl => h.1.ok (by rw [zipG_len] at hl; exact hl), fun hl => h.1.lt (by rw [zipG_len] at hl; exact hl), fun i hi j v hv => ?_⟩
 rw [zipG_get] at hv
 exact h.1.get i (by rw [zipG_len] at hi; exact hi) j v (by simpa [encp] using hv)
end
structure Ent where
 fp : List Nat
 p : Av → World → Prop
 kp : ∀ {M w w' X}, p M w → Kp X w w' → (∀ b ∈ X, M b) → (∀ b ∈ fp, b ∉ X) → p M w'
 anti : ∀ {M M' w}, p M w → (∀ b, M' b → M b) → p M' w
 fresh : ∀ {M w}, p M w → p (fun b => M b ∨ w.heap.size ≤ b) w
 lt : ∀ {M w}, p M w → ∀ b ∈ fp, b < w.heap.size
def Ent.im {α : Type} (T : Ty α) (l : List α) (g : Gh) : Ent where
 fp := []
 p := fun M w => SlG T M w l g
 kp := fun h k hM _ => h.kp k hM
 anti := fun h hM => h.anti hM
 fresh := fun h => h.fresh
 lt := fun _ b hb => by cases hb
def Ent.own {α : Type} (E : TypeId) (T : Ty α) (l : List α) (g : Gh) : Ent where
 fp := abl g.a
 p := fun M w => OwG E T M w l g
 kp := fun h k hM hX => h.kp k hM hX
 anti := fun h hM => h.anti hM
 fresh := fun h => h.fresh
 lt := fun h => h.ow.lt
def Ent.blk (b : Nat) (cs : List Value) : Ent where
 fp := [b]
 p := fun _ w => Blk w b cs
 kp := fun h k _ hX => h.kp k (hX b (by simp))
 anti := fun h _ => h
 fresh := fun h => h
 lt := fun h => h.ltl
def Ent.ro (b : Nat) (cs : List Value) : Ent where
 fp := []
 p := fun M w => Blk w b cs ∧ ¬ M b
 kp := fun h k hM _ => ⟨h.1.kp k (fun hx => h.2 (hM _ hx)), h.2⟩
 anti := fun h hM => ⟨h.1, fun hb => h.2 (hM _ hb)⟩
 fresh := fun h => ⟨h.1, fun hb => by
  rcases hb with hb | hb
  ·exact h.2 hb
  ·have := h.1.lt; omega⟩
 lt := fun _ b hb => by cases hb
def Ent.row (k : IntKind) (b : Nat) (l : List Int) (n : Int) : Ent where
 fp := [b]
 p := fun _ w => Rw k w b l ∧ V.ln l = n
 kp := fun h kp _ hX => ⟨h.1.kp kp (hX b (by simp)), h.2⟩
 anti := fun h _ => h
 fresh := fun h => h
 lt := fun h => by simpa using h.1.lt
def Ent.none : Ent where
 fp := []
 p := fun _ _ => True
 kp := fun _ _ _ _ => trivial
 anti := fun _ _ => trivial
 fresh := fun _ => trivial
 lt := fun _ b hb => by cases hb
def fpl : List Ent → List Nat
 | [] => []
 | e :: r => e.fp ++ fpl r
theorem mem_fpl {L : List Ent} {b : Nat} : b ∈ fpl L ↔ ∃ e ∈ L, b ∈ e.fp := by
 induction L with
 | nil => simp [fpl]
 | cons e r ih => simp [fpl, ih]
def AvL (M : Av) (L : List Ent) : Av := fun b => M b ∨ b ∈ fpl L
structure SH (M : Av) (X : List Nat) (w0 : World) (L : List Ent) (w : World) : Prop where
 kp : Kp X w0 w
 nd : L.Pairwise fun e f => Dj e.fp f.fp
 lo : ∀ b ∈ fpl L, w0.heap.size ≤ b ∨ b ∈ X
 nm : ∀ b ∈ fpl L, ¬ M b
 mx : ∀ b, M b → b < w0.heap.size
 ps : ∀ e ∈ L, e.p (AvL M L) w
abbrev S0 (M : Av) (L : List Ent) (w : World) : Prop := SH M (fpl L) w L w
def selL (L : List Ent) (ks : List Nat) : List Ent := ks.map fun k => L.getD k .none
def okP1 (L : List Ent) (k : Nat) : List Nat → Bool
 | [] => true
 | r :: q => (!(Nat.beq k r) || (L.getD k .none).fp.isEmpty) && okP1 L k q
def okP (L : List Ent) : List Nat → Bool
 | [] => true
 | k :: q => okP1 L k q && okP L q
def okX (L : List Ent) (rs : List Nat) : List Nat → Bool
 | [] => true
 | k :: q => okP1 L k rs && okX L rs q
section
variable {M : Av} {X : List Nat} {w0 w w' : World} {L : List Ent}
theorem pw_get : ∀ {L : List Ent}, L.Pairwise (fun e f => Dj e.fp f.fp) → ∀ (i j : Nat), i ≠ j → Dj (L.getD i .none).fp (L.getD j .none).fp
 | [], _, i, j, _, y, h => by simp [Ent.none] at h
 | l :: r, hn, i, j, hij, y, h => by
  rw [List.pairwise_cons] at hn
  have mem : ∀ {k : Nat} {y : Nat}, y ∈ (r.getD k .none).fp → r.getD k .none ∈ r := fun {k y} hy => by
   rw [List.getD_eq_getElem?_getD] at hy ⊢
   cases hg : r[k]? with
   | none => simp [hg, Ent.none] at hy
   | some l => simp only [Option.getD_some]; exact List.mem_of_getElem? hg
  match i, j with
  | 0, 0 => exact absurd rfl hij
  | 0, j + 1 =>
   simp only [List.getD_cons_zero, List.getD_cons_succ] at h ⊢
   exact fun hy => hn.1 _ (mem hy) y h hy
  | i + 1, 0 =>
   simp only [List.getD_cons_zero, List.getD_cons_succ] at h ⊢
   exact fun hy => hn.1 _ (mem h) y hy h
  | i + 1, j + 1 =>
   simp only [List.getD_cons_succ] at h ⊢
   exact pw_get hn.2 i j (by omega) y h
theorem SH.dj (h : SH M X w0 L w) {a b : Nat} (hab : (!(Nat.beq a b) || (L.getD a .none).fp.isEmpty) = true) : Dj (L.getD a .none).fp (L.getD b .none).fp := by
 rw [Bool.or_eq_true] at hab
 rcases hab with hab | hab
 ·exact pw_get h.nd a b (fun e => by subst e; simp at hab)
 ·rw [List.isEmpty_iff] at hab
  rw [hab]
  intro y hy
  cases hy
theorem getD_mem' {L : List Ent} {k b : Nat} (hb : b ∈ (L.getD k .none).fp) : L.getD k .none ∈ L := by
 rw [List.getD_eq_getElem?_getD] at hb ⊢
 cases hg : L[k]? with
 | none => simp [hg, Ent.none] at hb
 | some l => simp only [Option.getD_some]; exact List.mem_of_getElem? hg
theorem okP1_spec {L : List Ent} {k : Nat} : ∀ {rs : List Nat}, okP1 L k rs = true → ∀ r ∈ rs, (!(Nat.beq k r) || (L.getD k .none).fp.isEmpty) = true
 | [], _, r, hr => by cases hr
 | q :: rs, h, r, hr => by
  unfold okP1 at h
  rw [Bool.and_eq_true] at h
  rcases List.mem_cons.1 hr with rfl | hr
  ·exact h.1
  ·exact okP1_spec h.2 r hr
theorem okX_spec {L : List Ent} {rs : List Nat} : ∀ {ks : List Nat}, okX L rs ks = true → ∀ k ∈ ks, okP1 L k rs = true
 | [], _, k, hk => by cases hk
 | q :: ks, h, k, hk => by
  unfold okX at h
  rw [Bool.and_eq_true] at h
  rcases List.mem_cons.1 hk with rfl | hk
  ·exact h.1
  ·exact okX_spec h.2 k hk
theorem SH.sel_nd (h : SH M X w0 L w) : ∀ {ks : List Nat}, okP L ks = true → (selL L ks).Pairwise fun e f => Dj e.fp f.fp
 | [], _ => List.Pairwise.nil
 | k :: q, hk => by
  unfold okP at hk
  rw [Bool.and_eq_true] at hk
  show ((L.getD k .none) :: selL L q).Pairwise _
  rw [List.pairwise_cons]
  refine ⟨fun e he => ?_, h.sel_nd hk.2⟩
  obtain ⟨r, hr, rfl⟩ := List.mem_map.1 he
  exact h.dj (okP1_spec hk.1 r hr)
theorem mem_sel {ks : List Nat} {b : Nat} (h : b ∈ fpl (selL L ks)) : ∃ k ∈ ks, b ∈ (L.getD k .none).fp := by
 obtain ⟨e, he, hb⟩ := mem_fpl.1 h
 obtain ⟨k, hk, rfl⟩ := List.mem_map.1 he
 exact ⟨k, hk, hb⟩
theorem sel_sub {ks : List Nat} {b : Nat} (h : b ∈ fpl (selL L ks)) : b ∈ fpl L := by
 obtain ⟨k, _, hb⟩ := mem_sel h
 exact mem_fpl.2 ⟨_, getD_mem' hb, hb⟩
theorem SH.sel_p (h : SH M X w0 L w) {ks : List Nat} {e : Ent} (he : e ∈ selL L ks) : e.p (AvL M L) w := by
 obtain ⟨k, _, rfl⟩ := List.mem_map.1 he
 rw [List.getD_eq_getElem?_getD]
 cases hg : L[k]? with
 | none => exact trivial
 | some l => exact h.ps l (List.mem_of_getElem? hg)
theorem SH.sel_lt (h : SH M X w0 L w) {b : Nat} (hb : b ∈ fpl L) : b < w.heap.size := by
 obtain ⟨e, he, hb⟩ := mem_fpl.1 hb
 exact e.lt (h.ps e he) b hb
theorem SH.cross (h : SH M X w0 L w) {ks rs : List Nat} (hx : okX L rs ks = true) {b : Nat} (h1 : b ∈ fpl (selL L ks)) (h2 : b ∈ fpl (selL L rs)) : False := by
 obtain ⟨k, hk, hb⟩ := mem_sel h1
 obtain ⟨r, hr, hb'⟩ := mem_sel h2
 exact h.dj (okP1_spec (okX_spec hx k hk) r hr) b hb hb'
theorem SH.sel (h : SH M X w0 L w) (ks : List Nat) (hk : okP L ks = true) : SH M X w0 (selL L ks) w :=
 ⟨h.kp, h.sel_nd hk, fun b hb => h.lo b (sel_sub hb), fun b hb => h.nm b (sel_sub hb), h.mx, fun e he => e.anti (h.sel_p he) fun b hb => by
  rcases hb with hb | hb
  ·exact .inl hb
  ·exact .inr (sel_sub hb)⟩
theorem SH.hand (h : SH M X w0 L w) (ks rs : List Nat) (hk : okP L ks = true) (hx : okX L rs ks = true) : S0 (AvL M (selL L rs)) (selL L ks) w := by
 refine ⟨Kp.refl _ _, h.sel_nd hk, fun b hb => .inr hb, fun b hb hm => ?_, fun b hm => ?_, fun e he => e.anti (h.sel_p he) fun b hb => ?_⟩
 ·rcases hm with hm | hm
  ·exact h.nm b (sel_sub hb) hm
  ·exact h.cross hx hb hm
 ·rcases hm with hm | hm
  ·exact Nat.lt_of_lt_of_le (h.mx b hm) h.kp.size
  ·exact h.sel_lt (sel_sub hm)
 ·rcases hb with (hb | hb) | hb
  ·exact .inl hb
  ·exact .inr (sel_sub hb)
  ·exact .inr (sel_sub hb)
theorem SH.join (h : SH M X w0 L w) (ks rs : List Nat) (hr : okP L rs = true) (hx : okX L rs ks = true) {L' : List Ent} (h2 : SH (AvL M (selL L rs)) (fpl (selL L ks)) w L' w') : SH M X w0 (L' ++ selL L rs) w' := by
 have hin : ∀ {b : Nat}, b ∈ fpl (L' ++ selL L rs) → b ∈ fpl L' ∨ b ∈ fpl (selL L rs) := fun hb => by
  obtain ⟨e, he, hb⟩ := mem_fpl.1 hb
  rcases List.mem_append.1 he with he | he
  ·exact .inl (mem_fpl.2 ⟨e, he, hb⟩)
  ·exact .inr (mem_fpl.2 ⟨e, he, hb⟩)
 refine ⟨h.kp.trans h2.kp (fun y hy => ?_), ?_, fun b hb => ?_, fun b hb => ?_, h.mx, fun e he => ?_⟩
 ·rcases h.lo y (sel_sub hy) with h1 | h1
  ·exact .inr h1
  ·exact .inl h1
 ·rw [List.pairwise_append]
  refine ⟨h2.nd, h.sel_nd hr, fun e he f hf y hy hyf => ?_⟩
  exact h2.nm y (mem_fpl.2 ⟨e, he, hy⟩) (.inr (mem_fpl.2 ⟨f, hf, hyf⟩))
 ·rcases hin hb with hb | hb
  ·rcases h2.lo b hb with h1 | h1
   ·exact .inl (Nat.le_trans h.kp.size h1)
   ·exact h.lo b (sel_sub h1)
  ·exact h.lo b (sel_sub hb)
 ·rcases hin hb with hb | hb
  ·exact fun hm => h2.nm b hb (.inl hm)
  ·exact h.nm b (sel_sub hb)
 ·rcases List.mem_append.1 he with he | he
  ·refine e.anti (h2.ps e he) fun b hb => ?_
   rcases hb with hb | hb
   ·exact .inl (.inl hb)
   ·rcases hin hb with hb | hb
    ·exact .inr hb
    ·exact .inl (.inr hb)
  ·have hp := e.fresh (h.sel_p he)
   refine e.anti (e.kp hp h2.kp (fun b hb => .inl (.inr (sel_sub hb))) (fun b hb hb' => ?_)) fun b hb => ?_
   ·exact h.cross hx hb' (mem_fpl.2 ⟨e, he, hb⟩)
   ·rcases hb with hb | hb
    ·exact .inl (.inl hb)
    ·rcases hin hb with hb | hb
     ·rcases h2.lo b hb with h1 | h1
      ·exact .inr h1
      ·exact .inl (.inr (sel_sub h1))
     ·exact .inl (.inr (sel_sub hb))
theorem SH.below (h : SH M X w0 L w) (hb : Below w.heap.size w w') : SH M X w0 L w' :=
 ⟨h.kp.step hb, h.nd, h.lo, h.nm, h.mx, fun e he => e.kp (h.ps e he) (Kp.of_below hb []) (by simp) (by simp)⟩
theorem SH.add (h : SH M X w0 L w) {e : Ent} (hf : e.fp = []) (hp : e.p (AvL M L) w) : SH M X w0 (e :: L) w := by
 have hfe : fpl (e :: L) = fpl L := by simp [fpl, hf]
 have hav : AvL M (e :: L) = AvL M L := by unfold AvL; rw [hfe]
 refine ⟨h.kp, ?_, by rw [hfe]; exact h.lo, by rw [hfe]; exact h.nm, h.mx, fun e' he => ?_⟩
 ·rw [List.pairwise_cons]
  exact ⟨fun f _ y hy => (by rw [hf] at hy; cases hy), h.nd⟩
 ·rw [hav]
  rcases List.mem_cons.1 he with rfl | he
  ·exact hp
  ·exact h.ps e' he
theorem SH.addIm (h : SH M X w0 L w) {α : Type} {T : Ty α} {l : List α} {g : Gh} (hs : SlG T (AvL M L) w l g) : SH M X w0 (.im T l g :: L) w := h.add rfl hs
theorem SH.addNil (h : SH M X w0 L w) {α : Type} (E : TypeId) (T : Ty α) : SH M X w0 (.own E T ([] : List α) .nil :: L) w := h.add rfl OwG.nil
theorem SH.at (h : SH M X w0 L w) (k : Nat) {e : Ent} (hk : L[k]? = some e) : e.p (AvL M L) w := h.ps e (List.mem_of_getElem? hk)
theorem SH.im (h : SH M X w0 L w) (k : Nat) {α : Type} {T : Ty α} {l : List α} {g : Gh} (hk : L[k]? = some (.im T l g)) : SlG T (AvL M L) w l g := h.at k hk
theorem SH.ow (h : SH M X w0 L w) (k : Nat) {α : Type} {E : TypeId} {T : Ty α} {l : List α} {g : Gh} (hk : L[k]? = some (.own E T l g)) : OwG E T (AvL M L) w l g := h.at k hk
theorem SH.osl (h : SH M X w0 L w) (k : Nat) {α : Type} {E : TypeId} {T : Ty α} {l : List α} {g : Gh} (hk : L[k]? = some (.own E T l g)) : SlG T F0 w l g := (h.ow k hk).sl0
theorem SH.bk (h : SH M X w0 L w) (k : Nat) {b : Nat} {cs : List Value} (hk : L[k]? = some (.blk b cs)) : Blk w b cs := h.at k hk
theorem SH.ro (h : SH M X w0 L w) (k : Nat) {b : Nat} {cs : List Value} (hk : L[k]? = some (.ro b cs)) : Blk w b cs := (h.at k hk).1
theorem SH.rw (h : SH M X w0 L w) (k : Nat) {b : Nat} {q : IntKind} {l : List Int} {n : Int} (hk : L[k]? = some (.row q b l n)) : Rw q w b l ∧ V.ln l = n := h.at k hk
theorem SH.frz1 {α : Type} {E : TypeId} {T : Ty α} {l : List α} {g : Gh} (h : SH M X w0 (.own E T l g :: L) w) : SH M X w0 (.im T l g :: L) w := by
 have hsub : ∀ {b : Nat}, b ∈ fpl (Ent.im T l g :: L) → b ∈ fpl (Ent.own E T l g :: L) := fun hb => by
  simp only [fpl, List.mem_append] at hb ⊢
  rcases hb with hb | hb
  ·cases hb
  ·exact .inr hb
 refine ⟨h.kp, ?_, fun b hb => h.lo b (hsub hb), fun b hb => h.nm b (hsub hb), h.mx, fun e he => ?_⟩
 ·have := h.nd
  rw [List.pairwise_cons] at this ⊢
  exact ⟨fun f _ y hy => (by cases hy), this.2⟩
 ·rcases List.mem_cons.1 he with rfl | he
  ·have ho : OwG E T (AvL M (.own E T l g :: L)) w l g := h.ps _ List.mem_cons_self
   refine ho.sl (fun b hb hm => ?_) (fun b hm => ?_)
   ·rcases hm with hm | hm
    ·exact h.nm b (by simp only [fpl, List.mem_append]; exact .inl hb) hm
    ·have hm2 : b ∈ fpl L := by
      simp only [fpl, List.mem_append] at hm
      rcases hm with hm | hm
      ·cases hm
      ·exact hm
     have hn := h.nd
     rw [List.pairwise_cons] at hn
     obtain ⟨e, he, hbe⟩ := mem_fpl.1 hm2
     exact hn.1 e he b hb hbe
   ·rcases hm with hm | hm
    ·exact .inl hm
    ·exact .inr (hsub hm)
  ·exact e.anti (h.ps e (List.mem_cons_of_mem _ he)) fun b hb => by
    rcases hb with hb | hb
    ·exact .inl hb
    ·exact .inr (hsub hb)
end
theorem S0.nil (w : World) : S0 F0 [] w := ⟨Kp.refl _ _, List.Pairwise.nil, by simp [fpl], by simp [fpl], fun _ (hf : False) => hf.elim, by simp⟩
theorem s0im {w : World} {L : List Ent} (h : S0 F0 L w ∧ fpl L = []) {α : Type} {T : Ty α} {l : List α} {g : Gh} {M : Av} (hs : SlG T M w l g) : S0 F0 (.im T l g :: L) w ∧ fpl (.im T l g :: L) = [] := by
 refine ⟨?_, by simp only [fpl, h.2]; rfl⟩
 have h1 : SH F0 (fpl (.im T l g :: L)) w L w := by
  have : fpl (.im T l g :: L) = fpl L := by simp [fpl, Ent.im]
  rw [this]; exact h.1
 refine h1.addIm (hs.anti fun b hb => ?_)
 rcases hb with hb | hb
 ·exact hb.elim
 ·rw [h.2] at hb; cases hb
theorem s0ro {w : World} {L : List Ent} (h : S0 F0 L w ∧ fpl L = []) {b : Nat} {cs : List Value} (hs : Blk w b cs) : S0 F0 (.ro b cs :: L) w ∧ fpl (.ro b cs :: L) = [] := by
 refine ⟨?_, by simp only [fpl, h.2]; rfl⟩
 have h1 : SH F0 (fpl (.ro b cs :: L)) w L w := by
  have : fpl (.ro b cs :: L) = fpl L := by simp [fpl, Ent.ro]
  rw [this]; exact h.1
 refine h1.add rfl ⟨hs, fun hb => ?_⟩
 rcases hb with hb | hb
 ·exact hb.elim
 ·rw [h.2] at hb; cases hb
theorem s0nil {w : World} : S0 F0 [] w ∧ fpl [] = [] := ⟨S0.nil w, rfl⟩
theorem retP_of {P : Program} {f : FuncId} {args : Array Value} {v : Value} (hc : ∀ w, (callFunc f args).run P w = .ok (.enter f args) w)
  (h : ∀ w, S0 F0 [] w → Calls P f args w fun e w' => ∃ u, e = .returned u ∧ u = v ∧ SH F0 (fpl []) w [] w') : Ret P f args v :=
 ret_of hc fun w => (h w (S0.nil w)).mono (by rintro e w' ⟨u, rfl, rfl, hS⟩; exact ⟨rfl, hS.kp.below⟩)
theorem retB_of {P : Program} {f : FuncId} {args : Array Value} {v : Value} {w : World} {L : List Ent} (hL : S0 F0 L w ∧ fpl L = []) (hc : ∀ w, (callFunc f args).run P w = .ok (.enter f args) w)
  (h : ∀ w', S0 F0 L w' → Calls P f args w' fun e w'' => ∃ u, e = .returned u ∧ u = v ∧ SH F0 (fpl L) w' [] w'') : RetB P f args v w :=
 .inl ⟨hc, fun w' hb => by
  have h0 : S0 F0 L w' := by
   have h1 := hL.1.below hb
   refine ⟨Kp.refl _ _, h1.nd, fun b hb => (by rw [hL.2] at hb; cases hb), h1.nm, fun _ (hf : False) => hf.elim, h1.ps⟩
  refine (h w' h0).mono ?_
  rintro e w'' ⟨u, rfl, rfl, hS⟩
  refine ⟨rfl, ?_⟩
  have := hS.kp
  rw [hL.2] at this
  exact this.below⟩
def nIndexByte (s : Str) (c : Int) : Int := Lib.indexByte s c.toNat.toUInt8
theorem nat_IndexByteString {P : Program} {f : FuncId} {fn : Func} (hf : P.funcs[f]? = some fn) (hname : (fn.name == "runtime.NumGoroutine") = false)
  (hb : fn.body.isNone = true) (hn : Extern.findNext fn = none) (he : Extern.find fn = some Extern.BytealgIndexByte.indexByte) (s : Str) (c : Int) (w : World) : RetB P f ⟨[.string ⟨⟨s⟩⟩, .int .u8 c]⟩ (.int .i64 (nIndexByte s c)) w :=
 .inr fun w' _ => by rw [run_callFunc_extern hf hname hb hn he, Lib.run_indexByteString]; rfl
end Go.V

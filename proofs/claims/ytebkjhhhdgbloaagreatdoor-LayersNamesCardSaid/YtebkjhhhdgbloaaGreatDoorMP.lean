/-
 Maps of the call's own, keyed by strings: made, filled by constant keys, looked up. Nothing here is a statement of this claim.
-/
import Derived.Test.YtebkjhhhdgbloaaGreatDoorD
import Derived.WideMake
import Derived.MapKept
namespace Go.V
open Go Go.RowKit
variable {D : List Deferred}
def mpE : Nat → List (Str × Value) → List MapEntry
 | _, [] => []
 | i, x :: r => ⟨.string ⟨⟨x.1⟩⟩, x.2, i⟩ :: mpE (i + 1) r
def Mp (w : World) (b : Nat) (l : List (Str × Value)) : Prop := w.heap[b]? = some (.map ⟨mpE 0 l⟩ l.length)
theorem Mp.lt {w : World} {b : Nat} {l : List (Str × Value)} (h : Mp w b l) : b < w.heap.size := by
 rcases Nat.lt_or_ge b w.heap.size with h1 | h1
 ·exact h1
 ·unfold Mp at h
  rw [Array.getElem?_eq_none h1] at h; cases h
theorem Mp.kp {w w' : World} {b : Nat} {l : List (Str × Value)} {X : List Nat} (h : Mp w b l) (k : Kp X w w') (hX : b ∉ X) : Mp w' b l := (k.block b h.lt hX).trans h
def Ent.mpo (b : Nat) (l : List (Str × Value)) : Ent where
 fp := [b]
 p := fun _ w => Mp w b l
 kp := fun h k _ hX => h.kp k (hX b (by simp))
 anti := fun h _ => h
 fresh := fun h => h
 lt := fun h => by simpa using h.lt
theorem mpE_app : ∀ (i : Nat) (l r : List (Str × Value)), mpE i (l ++ r) = mpE i l ++ mpE (i + l.length) r
 | i, [], r => by simp [mpE]
 | i, x :: l, r => by
  rw [List.cons_append, mpE, mpE_app (i + 1) l r, mpE, List.length_cons, show i + 1 + l.length = i + (l.length + 1) by omega]; rfl
def kx : List Str → Str → Nat
 | [], _ => 0
 | x :: r, s => if s == x then 0 else kx r s + 1
theorem kx_le : ∀ (l : List Str) (s : Str), kx l s ≤ l.length
 | [], _ => by simp [kx]
 | x :: r, s => by
  unfold kx
  split
  ·simp
  ·have := kx_le r s; simp; omega
def x_key (l : List Str) (s : Str) : Int := (kx l s : Int)
theorem sval_eq (s t : Str) : ((⟨⟨s⟩⟩ : ByteArray) == ⟨⟨t⟩⟩) = (s == t) := by
 show ((⟨s⟩ : Array UInt8) == ⟨t⟩) = (s == t)
 rw [Bool.eq_iff_iff, beq_iff_eq, beq_iff_eq]
 exact ⟨fun h => by injection h, fun h => by rw [h]⟩
theorem find_at : ∀ (l : List (Str × Value)) (s : Str) (i j : Nat), Instr.findNow .string (.string ⟨⟨s⟩⟩) (mpE j l) i = some ((l[kx (l.map (·.1)) s]?).map fun x => (i + kx (l.map (·.1)) s, x.2))
 | [], s, i, j => rfl
 | x :: r, s, i, j => by
  have ih := find_at r s (i + 1) (j + 1)
  rw [mpE, Instr.findNow]
  show (match (some ((⟨⟨s⟩⟩ : ByteArray) == ⟨⟨x.1⟩⟩) : Option Bool) with
   | some true => some (some (i, x.2))
   | some false => Instr.findNow .string (.string ⟨⟨s⟩⟩) (mpE (j + 1) r) (i + 1)
   | none => none) = _
  rw [sval_eq, List.map_cons, kx]
  cases s == x.1 with
  | true => simp
  | false =>
   simp only [ih, Bool.false_eq_true, if_false, List.getElem?_cons_succ]
   cases r[kx (r.map (·.1)) s]? with
   | none => rfl
   | some y => simp; omega
section
variable {P : Program} {a : Act} {w : World} {n : Nat} {l : SF} {M : Av}
theorem mp_upd {w : World} {b : Nat} (o : Obj) : Kp [b] w { w with heap := w.heap.setIfInBounds b o } :=
 ⟨rfl, rfl, rfl, by simp, fun k hk hx => by
  have : k ≠ b := by simpa using hx
  simp [Ne.symm this]⟩
theorem o_mkmap {d : Option Tmp} {t : TypeId} {ty : TypeId} {pos : String} {after : Array Edge} (hS : S0 M [] w) :
  Stp P ⟨d, .makeMap t none, ty, pos, after, none⟩ a w fun u w' => ∃ b : Nat, u = .map (some b) ∧ SH M (fpl []) w [.mpo b []] w' := by
 refine Stp.of_run (v := .map (some w.heap.size)) (w' := w.alloc (.map #[] 0)) ?_ ⟨w.heap.size, rfl, SH.step hS (Kp.of_below ((Below.refl _ _).alloc (Nat.le_refl _) _) []) (by simp) (by simp [fpl, Ent.mpo]) ?_⟩
 ·simp [execOp, run_makeMap_plain]
 ·intro e he
  rw [List.mem_singleton] at he
  subst he
  show (w.heap.push (.map #[] 0))[w.heap.size]? = some (.map ⟨mpE 0 []⟩ 0)
  simp [mpE]
theorem o_ins {t kt et : TypeId} {x y z : Operand} {ty : TypeId} {pos : String} {after : Array Edge} {b : Nat} {ls : List (Str × Value)} {k : Str} {v : Value} (H : FrG D n l a) (hS : S0 M [.mpo b ls] w)
  (hx : ev l [] x = some (.map (some b))) (hy : ev l [] y = some (.string ⟨⟨k⟩⟩)) (hz : ev l [] z = some v) (hm : P.underlying t = some (.map kt et)) (hk : P.underlying kt = some .string) (hn : kx (ls.map (·.1)) k = ls.length) :
  Stp P ⟨none, .insert t x y z, ty, pos, after, none⟩ a w fun _ w' => SH M (fpl [.mpo b ls]) w [.mpo b (ls ++ [(k, v)])] w' := by
 have hb : Mp w b ls := SH.at hS 0 rfl
 have hf : Instr.findNow .string (.string ⟨⟨k⟩⟩) (mpE 0 ls) 0 = some none := by
  rw [find_at, hn, List.getElem?_eq_none (by omega)]; rfl
 have hc : (Instr.checkKey false 10000 kt (.string ⟨⟨k⟩⟩)).run P w = .ok () w := MapKept.run_checkKey (k := .string ⟨⟨k⟩⟩) hk (by simp [MapKept.IsKey]) false 9999
 refine Stp.skip (w' := { w with heap := w.heap.setIfInBounds b (.map ⟨mpE 0 (ls ++ [(k, v)])⟩ (ls.length + 1)) }) ?_ rfl fun _ => SH.step hS ((mp_upd _).wide (by simp [fpl, Ent.mpo])) (by simp) (by simp [fpl, Ent.mpo]) ?_
 ·have he : (⟨mpE 0 ls⟩ : Array MapEntry).push ⟨.string ⟨⟨k⟩⟩, v, ls.length⟩ = ⟨mpE 0 (ls ++ [(k, v)])⟩ := by
   rw [mpE_app]; simp [mpE]
  simp [execOp, H.ev (okc_nil a) hx, H.ev (okc_nil a) hy, H.ev (okc_nil a) hz, Instr.mapUpdate, run_underlying hm, MapKept.run_getObj_map hb, hc, MapKept.run_findKey hk hf, MapKept.run_setObj_map _ hb, Result.andThen, he]
 ·intro e he
  rw [List.mem_singleton] at he
  subst he
  show (w.heap.setIfInBounds b _)[b]? = _
  rw [Array.getElem?_setIfInBounds]
  simp [hb.lt]
theorem mp_look {t kt et : TypeId} {b : Nat} {ls : List (Str × Value)} {k : Str} {z : Value} (F : Int → Value) (hb : Mp w b ls) (hm : P.underlying t = some (.map kt et)) (hk : P.underlying kt = some .string) (hz : (P.info? et).map (·.zero) = some (some z))
  (hF : ls.map (·.2) ++ [z] = (List.range (ls.length + 1)).map fun (i : Nat) => F (i : Int)) (c : Bool) :
  (Instr.lookup t (.map (some b)) (.string ⟨⟨k⟩⟩) c).run P w = .ok (if c then .tuple #[F (x_key (ls.map (·.1)) k), .bool (decide (x_key (ls.map (·.1)) k < (ls.length : Int)))] else F (x_key (ls.map (·.1)) k)) w := by
 have hzr : (zeroValue et).run P w = .ok z w := by
  cases hi : P.info? et with
  | none => simp [hi] at hz
  | some inf =>
   simp [hi] at hz
   simp [zeroValue, typeInfo, hi, hz]
 have hc : ∀ e, (Instr.checkKey e 10000 kt (.string ⟨⟨k⟩⟩)).run P w = .ok () w := fun e => MapKept.run_checkKey (k := .string ⟨⟨k⟩⟩) hk (by simp [MapKept.IsKey]) e 9999
 have hle := kx_le (ls.map (·.1)) k
 rw [List.length_map] at hle
 have hg : (ls.map (·.2) ++ [z])[kx (ls.map (·.1)) k]? = some (F (x_key (ls.map (·.1)) k)) := by
  rw [hF, List.getElem?_map, List.getElem?_range (by omega)]; rfl
 have hf := find_at ls k 0 0
 rcases Nat.lt_or_ge (kx (ls.map (·.1)) k) ls.length with h | h
 ·rw [List.getElem?_append_left (by simpa using h), List.getElem?_map, List.getElem?_eq_getElem h] at hg
  have hg := Option.some.inj hg
  rw [List.getElem?_eq_getElem h] at hf
  have hd : decide (x_key (ls.map (·.1)) k < (ls.length : Int)) = true := decide_eq_true (by unfold x_key; omega)
  rw [hd, ← hg]
  simp [Instr.lookup, run_underlying hm, MapKept.run_getObj_map hb, hc, MapKept.run_findKey hk hf, Result.andThen]
 ·have he : kx (ls.map (·.1)) k = ls.length := by omega
  rw [he, List.getElem?_append_right (by simp), List.length_map, Nat.sub_self] at hg
  have hg : z = F (x_key (ls.map (·.1)) k) := Option.some.inj hg
  rw [List.getElem?_eq_none (by omega)] at hf
  have hd : decide (x_key (ls.map (·.1)) k < (ls.length : Int)) = false := decide_eq_false (by unfold x_key; omega)
  rw [hd, ← hg]
  simp [Instr.lookup, run_underlying hm, MapKept.run_getObj_map hb, hc, MapKept.run_findKey hk hf, hzr, Result.andThen]
theorem o_look {d : Option Tmp} {t kt et : TypeId} {x y : Operand} {c : Bool} {ty : TypeId} {pos : String} {after : Array Edge} {b : Nat} {ls : List (Str × Value)} {k : Str} {z : Value} {ix : Int} (F : Int → Value) (u : Value) (H : FrG D n l a) (hS : S0 M [.mpo b ls] w) (hix : ix = x_key (ls.map (·.1)) k)
  (hu : (if c then .tuple #[F ix, .bool (decide (ix < (ls.length : Int)))] else F ix) = u)
  (hx : ev l [] x = some (.map (some b))) (hy : ev l [] y = some (.string ⟨⟨k⟩⟩)) (hm : P.underlying t = some (.map kt et)) (hk : P.underlying kt = some .string) (hz : (P.info? et).map (·.zero) = some (some z))
  (hF : ls.map (·.2) ++ [z] = (List.range (ls.length + 1)).map fun (i : Nat) => F (i : Int)) :
  Stp P ⟨d, .lookup t x y c, ty, pos, after, none⟩ a w fun v w' => v = u ∧ SH M (fpl [.mpo b ls]) w [.mpo b ls] w' := by
 have hb : Mp w b ls := SH.at hS 0 rfl
 subst hix hu
 refine Stp.of_run (w' := w) ?_ ⟨rfl, SH.step hS (Kp.refl _ _) (by simp) (by simp [fpl, Ent.mpo]) fun e he => ?_⟩
 ·simp [execOp, H.ev (okc_nil a) hx, H.ev (okc_nil a) hy, mp_look F hb hm hk hz hF c]
 ·rw [List.mem_singleton] at he
  subst he
  exact hb
end
end Go.V

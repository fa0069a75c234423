/-
 Maps from strings to integers whose keys are open: made, filled, looked up; read alone. Nothing here is a statement of this claim.
-/
import Derived.Test.YtebkjhhhdgbloaaGreatDoorMP
namespace Go.V
open Go Go.RowKit
variable {D : List Deferred}
abbrev Mi := List (Str × Int)
def mpV (ms : Mi) : List (Str × Value) := ms.map fun x => (x.1, .int .i64 x.2)
def mhas : Mi → Str → Bool
 | [], _ => false
 | x :: r, s => s == x.1 || mhas r s
def mget : Mi → Str → Int
 | [], _ => 0
 | x :: r, s => cond (s == x.1) x.2 (mget r s)
theorem mhas_kx : ∀ (ms : Mi) (s : Str), mhas ms s = decide (kx ((mpV ms).map (·.1)) s < (mpV ms).length)
 | [], s => by simp [mhas, mpV, kx]
 | x :: r, s => by
  have ih := mhas_kx r s
  simp only [mhas, mpV, List.map_cons, kx, List.length_cons] at ih ⊢
  cases s == x.1 with
  | true => simp
  | false => simp only [Bool.false_or, ih]; simp
theorem mget_kx : ∀ (ms : Mi) (s : Str), ((mpV ms).map (·.2) ++ [.int .i64 0])[kx ((mpV ms).map (·.1)) s]? = some (.int .i64 (mget ms s))
 | [], s => rfl
 | x :: r, s => by
  have ih := mget_kx r s
  simp only [mget, mpV, List.map_cons, kx, List.cons_append] at ih ⊢
  cases s == x.1 with
  | true => rfl
  | false => simpa [mpV] using ih
def Ent.mpi (b : Nat) (ms : Mi) : Ent := .mpo b (mpV ms)
def Ent.mpr (b : Nat) (ms : Mi) : Ent where
 fp := []
 p := fun M w => Mp w b (mpV ms) ∧ ¬ M b
 kp := fun h k hM _ => ⟨h.1.kp k (fun hx => h.2 (hM _ hx)), h.2⟩
 anti := fun h hM => ⟨h.1, fun hb => h.2 (hM _ hb)⟩
 fresh := fun h => ⟨h.1, fun hb => by
  rcases hb with hb | hb
  ·exact h.2 hb
  ·have := h.1.lt; omega⟩
 lt := fun _ b hb => by cases hb
section
variable {M : Av} {X : List Nat} {w0 w : World} {L : List Ent}
theorem SH.mi (h : SH M X w0 L w) (k : Nat) {b : Nat} {ms : Mi} (hk : L[k]? = some (.mpi b ms)) : Mp w b (mpV ms) := h.at k hk
theorem SH.mr (h : SH M X w0 L w) (k : Nat) {b : Nat} {ms : Mi} (hk : L[k]? = some (.mpr b ms)) : Mp w b (mpV ms) := (h.at k hk).1
theorem s0mp (h : S0 F0 L w ∧ fpl L = []) {b : Nat} {ms : Mi} (hs : Mp w b (mpV ms)) : S0 F0 (.mpr b ms :: L) w ∧ fpl (.mpr b ms :: L) = [] := by
 refine ⟨?_, by simp only [fpl, h.2]; rfl⟩
 have h1 : SH F0 (fpl (.mpr b ms :: L)) w L w := by
  have : fpl (.mpr b ms :: L) = fpl L := by simp [fpl, Ent.mpr]
  rw [this]; exact h.1
 refine h1.add rfl ⟨hs, fun hb => ?_⟩
 rcases hb with hb | hb
 ·exact hb.elim
 ·rw [h.2] at hb; cases hb
end
section
variable {P : Program} {a : Act} {w : World} {n : Nat} {l : SF} {M : Av}
theorem o_mkI {d : Option Tmp} {t : TypeId} {ty : TypeId} {pos : String} {after : Array Edge} (hS : S0 M [] w) :
  Stp P ⟨d, .makeMap t none, ty, pos, after, none⟩ a w fun u w' => ∃ b : Nat, u = .map (some b) ∧ SH M (fpl []) w [.mpi b []] w' := o_mkmap hS
theorem o_insI {t kt et : TypeId} {x y z : Operand} {ty : TypeId} {pos : String} {after : Array Edge} {b : Nat} {ms : Mi} {k : Str} {v : Int} (H : FrG D n l a) (hS : S0 M [.mpi b ms] w)
  (hx : ev l [] x = some (.map (some b))) (hy : ev l [] y = some (.string ⟨⟨k⟩⟩)) (hz : ev l [] z = some (.int .i64 v)) (hm : P.underlying t = some (.map kt et)) (hk : P.underlying kt = some .string) (hn : mhas ms k = false) :
  Stp P ⟨none, .insert t x y z, ty, pos, after, none⟩ a w fun _ w' => SH M (fpl [.mpi b ms]) w [.mpi b (ms ++ [(k, v)])] w' := by
 have h1 : kx ((mpV ms).map (·.1)) k = (mpV ms).length := by
  rw [mhas_kx] at hn
  have h2 := kx_le ((mpV ms).map (·.1)) k
  rw [List.length_map] at h2
  have := of_decide_eq_false hn
  omega
 have h2 := o_ins (ty := ty) (pos := pos) (after := after) H hS hx hy hz hm hk h1
 have h3 : mpV ms ++ [(k, .int .i64 v)] = mpV (ms ++ [(k, v)]) := by simp [mpV]
 rw [h3] at h2
 exact h2
theorem o_updI {t kt et : TypeId} {x y z : Operand} {ty : TypeId} {pos : String} {after : Array Edge} {b : Nat} {ms : Mi} {k : Str} {v : Int} (H : FrG D n l a) (hS : S0 M [.mpi b ms] w)
  (hx : ev l [] x = some (.map (some b))) (hy : ev l [] y = some (.string ⟨⟨k⟩⟩)) (hz : ev l [] z = some (.int .i64 v)) (hm : P.underlying t = some (.map kt et)) (hk : P.underlying kt = some .string) (hn : mhas ms k = false) :
  Stp P ⟨none, .mapUpdate t x y z, ty, pos, after, none⟩ a w fun _ w' => SH M (fpl [.mpi b ms]) w [.mpi b (ms ++ [(k, v)])] w' :=
 o_insI (ty := ty) (pos := pos) (after := after) H hS hx hy hz hm hk hn
theorem mp_lookI {t kt et : TypeId} {b : Nat} {ms : Mi} {k : Str} (hb : Mp w b (mpV ms)) (hm : P.underlying t = some (.map kt et)) (hk : P.underlying kt = some .string) (hz : (P.info? et).map (·.zero) = some (some (.int .i64 0))) (c : Bool) :
  (Instr.lookup t (.map (some b)) (.string ⟨⟨k⟩⟩) c).run P w = .ok (if c then .tuple #[.int .i64 (mget ms k), .bool (mhas ms k)] else .int .i64 (mget ms k)) w := by
 have h := mp_look (P := P) (fun i => (((mpV ms).map (·.2) ++ [.int .i64 0])[i.toNat]?).getD undef) (k := k) hb hm hk hz (by
  apply List.ext_getElem
  ·simp
  ·intro i h1 h2
   simp only [List.getElem_map, List.getElem_range, Int.toNat_natCast]
   rw [List.getElem?_eq_getElem h1]; rfl) c
 have h1 : x_key ((mpV ms).map (·.1)) k = (kx ((mpV ms).map (·.1)) k : Int) := rfl
 rw [h]
 simp only [h1, Int.toNat_natCast, mget_kx, Option.getD_some]
 rw [mhas_kx]
 simp only [Int.ofNat_lt]
theorem o_lookI {d : Option Tmp} {t kt et : TypeId} {x y : Operand} {c : Bool} {ty : TypeId} {pos : String} {after : Array Edge} {b : Nat} {ms : Mi} {k : Str} (u : Value) (hu : (if c then .tuple #[.int .i64 (mget ms k), .bool (mhas ms k)] else .int .i64 (mget ms k)) = u) (H : FrG D n l a) (hS : S0 M [.mpi b ms] w)
  (hx : ev l [] x = some (.map (some b))) (hy : ev l [] y = some (.string ⟨⟨k⟩⟩)) (hm : P.underlying t = some (.map kt et)) (hk : P.underlying kt = some .string) (hz : (P.info? et).map (·.zero) = some (some (.int .i64 0))) :
  Stp P ⟨d, .lookup t x y c, ty, pos, after, none⟩ a w fun v w' => v = u ∧ SH M (fpl [.mpi b ms]) w [.mpi b ms] w' := by
 have hb : Mp w b (mpV ms) := SH.mi hS 0 rfl
 subst hu
 refine Stp.of_run (w' := w) ?_ ⟨rfl, hS⟩
 simp [execOp, H.ev (okc_nil a) hx, H.ev (okc_nil a) hy, mp_lookI hb hm hk hz c]
theorem o_lookR {d : Option Tmp} {t kt et : TypeId} {x y : Operand} {c : Bool} {ty : TypeId} {pos : String} {after : Array Edge} {b : Nat} {ms : Mi} {k : Str} (u : Value) (hu : (if c then .tuple #[.int .i64 (mget ms k), .bool (mhas ms k)] else .int .i64 (mget ms k)) = u) (H : FrG D n l a) (hS : S0 M [.mpr b ms] w)
  (hx : ev l [] x = some (.map (some b))) (hy : ev l [] y = some (.string ⟨⟨k⟩⟩)) (hm : P.underlying t = some (.map kt et)) (hk : P.underlying kt = some .string) (hz : (P.info? et).map (·.zero) = some (some (.int .i64 0))) :
  Stp P ⟨d, .lookup t x y c, ty, pos, after, none⟩ a w fun v w' => v = u ∧ SH M (fpl [.mpr b ms]) w [.mpr b ms] w' := by
 have hb : Mp w b (mpV ms) := SH.mr hS 0 rfl
 subst hu
 refine Stp.of_run (w' := w) ?_ ⟨rfl, hS⟩
 simp [execOp, H.ev (okc_nil a) hx, H.ev (okc_nil a) hy, mp_lookI hb hm hk hz c]
end
end Go.V

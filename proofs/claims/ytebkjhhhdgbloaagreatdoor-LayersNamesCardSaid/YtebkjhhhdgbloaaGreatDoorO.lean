/-
 Steps on what lies in memory, each by itself. Nothing here is a statement of this claim.
-/
import Derived.Test.YtebkjhhhdgbloaaGreatDoorS
import Derived.Laws.MakeOwn
import Derived.Scope
import Derived.Lib.AppendStr
namespace Go.V
open Go Go.RowKit
variable {D : List Deferred}
theorem Kp.wide {X Y : List Nat} {w w' : World} (h : Kp X w w') (hs : ∀ b ∈ X, b ∈ Y) : Kp Y w w' := ⟨h.os, h.tape, h.output, h.size, fun k hk hx => h.block k hk fun hy => hx (hs k hy)⟩
theorem SH.step {M : Av} {L L' : List Ent} {w w' : World} (h : S0 M L w) (k : Kp (fpl L) w w') (nd : L'.Pairwise fun e f => Dj e.fp f.fp) (lo : ∀ b ∈ fpl L', w.heap.size ≤ b ∨ b ∈ fpl L) (ps : ∀ e ∈ L', e.p (AvL M L') w') : SH M (fpl L) w L' w' :=
 ⟨k, nd, lo, fun b hb hm => by
  rcases lo b hb with h1 | h1
  ·have := h.mx b hm; omega
  ·exact h.nm b h1 hm, h.mx, ps⟩
theorem Ty.step {α : Type} (T : Ty α) {M : Av} {L L' : List Ent} {w w' : World} {x : α} {g : Nat → Gh} (_h : S0 M L w) (k : Kp (fpl L) w w') (lo : ∀ b ∈ fpl L', w.heap.size ≤ b ∨ b ∈ fpl L) (hi : T.inn (AvL M L) w x g) : T.inn (AvL M L') w' x g := by
 refine T.anti (T.kp (T.fresh hi) k (fun b hb => .inl (.inr hb))) fun b hb => ?_
 rcases hb with hb | hb
 ·exact .inl (.inl hb)
 ·rcases lo b hb with h1 | h1
  ·exact .inr h1
  ·exact .inl (.inr h1)
section
variable {P : Program} {a : Act} {w : World} {n : Nat} {l : SF} {M : Av}
theorem Stp.skip {o : Oper} {w' : World} {K : Value → World → Prop} (hr : (execOp a.eval o).run P w = .ok .skip w') (hd : o.dst = none) (hk : ∀ v, K v w') : Stp P o a w K := fun Q N hN => by
 unfold Oper.wp
 rw [hr]
 have h1 := hN undef w' (hk undef)
 obtain ⟨dst, op, ty, pos, after, guard⟩ := o
 obtain rfl : dst = none := hd
 exact h1
theorem o_box {d : Option Tmp} {E : TypeId} {x : Operand} {v : Value} {ty : TypeId} {pos : String} {after : Array Edge} (cs : List Value) (H : FrG D n l a) (hS : S0 M [] w) (hx : ev l [] x = some v) (hc : v.cells.toList = cs) :
  Stp P ⟨d, .box E x, ty, pos, after, none⟩ a w fun u w' => ∃ b : Nat, u = .pointer (some ⟨b, 0, none⟩) ∧ SH M (fpl []) w [.blk b cs] w' := by
 have hv : v.cells = ⟨cs⟩ := by rw [← hc]
 have hN := new_blk w cs E
 refine Stp.of_run (v := .pointer (some ⟨w.heap.size, 0, none⟩)) (w' := w.alloc (.cells ⟨cs⟩ E)) ?_ ⟨w.heap.size, rfl, SH.step hS hN.1 (by simp) (by simp [fpl, Ent.blk]) ?_⟩
 ·simp [execOp, H.ev (okc_nil a) hx, Instr.box, newVar, newRow, hv]
 ·intro e he
  rw [List.mem_singleton] at he
  subst he
  exact hN.2
theorem o_alloc {d : Option Tmp} {E : TypeId} {ty : TypeId} {pos : String} {after : Array Edge} (cs : List Value) {z : Value} (hS : S0 M [] w) (hz : (P.info? E).map (·.zero) = some (some z)) (hc : z.cells.toList = cs) :
  Stp P ⟨d, .alloc E, ty, pos, after, none⟩ a w fun u w' => ∃ b : Nat, u = .pointer (some ⟨b, 0, none⟩) ∧ SH M (fpl []) w [.blk b cs] w' := by
 have hv : z.cells = ⟨cs⟩ := by rw [← hc]
 have hN := new_blk w cs E
 have hzr : (zeroValue E).run P w = .ok z w := by
  cases hi : P.info? E with
  | none => simp [hi] at hz
  | some inf =>
   simp [hi] at hz
   simp [zeroValue, typeInfo, hi, hz]
 refine Stp.of_run (v := .pointer (some ⟨w.heap.size, 0, none⟩)) (w' := w.alloc (.cells ⟨cs⟩ E)) ?_ ⟨w.heap.size, rfl, SH.step hS hN.1 (by simp) (by simp [fpl, Ent.blk]) ?_⟩
 ·simp [execOp, Instr.alloc, hzr, newVar, newRow, hv]
 ·intro e he
  rw [List.mem_singleton] at he
  subst he
  exact hN.2
theorem o_store {t : TypeId} {x y : Operand} {ty : TypeId} {pos : String} {after : Array Edge} {b off : Nat} {v : Value} {cs : List Value} (cs' : List Value) (H : FrG D n l a) (hS : S0 M [.blk b cs] w)
  (hx : ev l [] x = some (.pointer (some ⟨b, off, none⟩))) (hy : ev l [] y = some v)
  (hz : (P.info? t).map (·.size) = some v.cells.toList.length) (h1 : oneCells v.cells.toList = true) (hl : Nat.ble (off + v.cells.toList.length) cs.length = true) (hs : setL cs off v.cells.toList = cs') :
  Stp P ⟨none, .store t x y, ty, pos, after, none⟩ a w fun _ w' => SH M (fpl [.blk b cs]) w [.blk b cs'] w' := by
 obtain ⟨w', h2, h3, h4⟩ := run_storeCells (P := P) (off := off) v.cells.toList 0 w cs h1 (hS.bk 0 rfl) (by simpa using hl)
 rw [Nat.add_zero, hs] at h4
 have hsz : (sizeOf t).run P w = .ok v.cells.size w := size_of_info (by simpa using hz)
 refine Stp.skip (w' := w') ?_ rfl fun _ => SH.step hS (h3.wide (by simp [fpl, Ent.blk])) (by simp) (by simp [fpl, Ent.blk]) ?_
 ·simp [execOp, H.ev (okc_nil a) hx, H.ev (okc_nil a) hy, Instr.storeAt, Instr.sureAddr, storeVar, hsz, h2]
 ·intro e he
  rw [List.mem_singleton] at he
  subst he
  exact h4
theorem o_rstore {t : TypeId} {x y : Operand} {ty : TypeId} {pos : String} {after : Array Edge} {k : IntKind} {b : Nat} {ix v m : Int} {r : List Int} (H : FrG D n l a) (hS : S0 M [.row k b r m] w)
  (hx : ev l [] x = some (.pointer (some ⟨b, 0 + ix.toNat * 1, none⟩))) (hy : ev l [] y = some (.int k v)) (hz : (P.info? t).map (·.size) = some 1) (h0 : 0 ≤ ix ∧ ix < m) :
  Stp P ⟨none, .store t x y, ty, pos, after, none⟩ a w fun _ w' => SH M (fpl [.row k b r m]) w [.row k b (seti r ix v) m] w' := by
 obtain ⟨hr, hm⟩ := hS.rw 0 rfl
 obtain ⟨w', h2, h3, h4⟩ := run_row_store (P := P) (v := v) hr hz h0.1 (by rw [hm]; exact h0.2)
 refine Stp.skip (w' := w') ?_ rfl fun _ => SH.step hS (h3.wide (by simp [fpl, Ent.row])) (by simp) (by simp [fpl, Ent.row]) ?_
 ·simp only [execOp, H.ev (okc_nil a) hx, H.ev (okc_nil a) hy, Sem.run_bind, h2, Result.andThen_ok, Sem.run_pure]
 ·intro e he
  rw [List.mem_singleton] at he
  subst he
  exact ⟨h4, by rw [ln_seti]; exact hm⟩
theorem Rw.ixn {i m : Int} {k : IntKind} {w : World} {b : Nat} {q : List Int} (h : Rw k w b q ∧ V.ln q = m) (hi : 0 ≤ i ∧ i < m) : V.at1 ⟨b, 0 + i.toNat * 1, none⟩ (.int k (gi q i)) w := h.1.at1 hi.1 (by rw [h.2]; exact hi.2)
def InnL {α : Type} (T : Ty α) (M : Av) (w : World) : List α → List (Nat → Gh) → Prop
 | [], _ => True
 | x :: r, gs => T.inn M w x (gs.headD fun _ => .nil) ∧ InnL T M w r gs.tail
theorem InnL.nil {α : Type} {T : Ty α} {M : Av} {w : World} {gs : List (Nat → Gh)} : InnL T M w [] gs := trivial
theorem InnL.cons {α : Type} {T : Ty α} {M : Av} {w : World} {x : α} {r : List α} {g : Nat → Gh} {gs : List (Nat → Gh)} (h : T.inn M w x g) (k : InnL T M w r gs) : InnL T M w (x :: r) (g :: gs) := ⟨h, k⟩
theorem InnL.get {α : Type} {T : Ty α} {M : Av} {w : World} : ∀ {xs : List α} {gs : List (Nat → Gh)}, InnL T M w xs gs → ∀ i (h : i < xs.length), T.inn M w xs[i] (sL gs i)
 | x :: r, gs, h, 0, _ => by
  have := h.1
  cases gs with
  | nil => simpa [sL] using this
  | cons g q => simpa [sL] using this
 | x :: r, gs, h, i + 1, hi => by
  have := InnL.get h.2 i (by simpa using hi)
  cases gs with
  | nil => simpa [sL] using this
  | cons g q => simpa [sL] using this
theorem o_lit {α : Type} {T : Ty α} {d : Nat} {t E : TypeId} {len : Nat} {zv : Value} {parts : Array (Nat × Operand)} {ty : TypeId} {pos : String} {after : Array Edge} {L : List Ent} (cs : List Value) (xs : List α) (gs : List (Nat → Gh))
  (vs : List Value) (H : FrG D n l a) (hS : S0 M L w) (he : evs l [] (parts.toList.map (·.2)) = some vs)
  (hu : P.underlying t = some (.slice E)) (hz : (P.info? E).map (·.size) = some T.z) (hzv : (P.info? E).map (·.zero) = some (some zv)) (hlen : Nat.ble (len * T.z) 16777216 = true) (hpos : Nat.blt 0 (len * T.z) = true)
  (hf : Instr.fill (fun i => some (i * T.z, T.z)) ((Array.range (len * T.z)).map (zv.cells[· % zv.cells.size]!)) ((parts.toList.map (·.1)).zip vs) = some ⟨cs⟩) (hxs : ((zipG xs (sL gs) 0).map (encp T)).flatten = cs) (hxl : xs.length = len)
  (hin : InnL T (AvL M L) w xs gs) :
  Stp P ⟨some d, .buildSlice t len parts, ty, pos, after, none⟩ a w fun v w' => ∃ g : Gh, v = .slice g.a len g.c ∧ SH M (fpl L) w [.own E T xs g] w' := by
 refine (o_buildO (P := P) (z := T.z) (enc := encp T) (a := a) (w := w) (ty := ty) (pos := pos) (after := after) (d := d) (fun p => T.len p.1 p.2) cs (zipG xs (sL gs) 0) vs H he hu hz hzv hlen hpos hf hxs (by rw [zipG_len]; exact hxl)).mono ?_
 rintro v w' ⟨a1, rfl, hk, ha, ho⟩
 have lo : ∀ b ∈ fpl [Ent.own E T xs (.mk a1 len (sL gs))], w.heap.size ≤ b ∨ b ∈ fpl L := by
  intro b hb
  simp only [fpl, Ent.own, Gh.a, ha, List.append_nil, List.mem_singleton] at hb
  exact .inl (by omega)
 have hk' : Kp (fpl L) w w' := hk.wide (by simp)
 refine ⟨.mk a1 len (sL gs), rfl, SH.step hS hk' (by simp) lo ?_⟩
 intro e he
 rw [List.mem_singleton] at he
 subst he
 exact ⟨ho, fun i hi => T.step hS hk' lo (hin.get i hi)⟩
theorem o_lit0 {α : Type} {T : Ty α} {d : Nat} {t E : TypeId} {ty : TypeId} {pos : String} {after : Array Edge} (hS : S0 M [] w) (hu : P.underlying t = some (.slice E)) (hz : (P.info? E).map (·.size) = some T.z) :
  Stp P ⟨some d, .buildSlice t 0 #[], ty, pos, after, none⟩ a w fun v w' => ∃ g : Gh, v = .slice g.a 0 g.c ∧ SH M (fpl []) w [.own E T ([] : List α) g] w' := by
 have hs : (sizeOf E).run P w = .ok T.z w := size_of_info hz
 have hN := new_blk w [] E
 have hr : (Instr.buildSlice t 0 #[]).run P w = .ok (.slice (some ⟨w.heap.size, 0, none⟩) 0 0) (w.alloc (.cells ⟨[]⟩ E)) := by
  have h0 : Array.map (fun _ => (default : Value)) (Array.range 0) = (⟨[]⟩ : Array Value) := by simp
  simp only [Instr.buildSlice, Sem.run_bind, run_underlying hu, Result.andThen_ok, hs]
  simp [Instr.fill, newRow, h0]
 refine Stp.of_run (v := .slice (some ⟨w.heap.size, 0, none⟩) 0 0) (w' := w.alloc (.cells ⟨[]⟩ E)) (by simp [execOp, hr]) ⟨.mk (some ⟨w.heap.size, 0, none⟩) 0 (fun _ _ => .nil), rfl, SH.step hS hN.1 (by simp) (by simp [fpl, Ent.own, Gh.a, abl]) ?_⟩
 intro e he
 rw [List.mem_singleton] at he
 subst he
 refine ⟨?_, fun i hi => by simp at hi⟩
 exact Ow.of_blk (fun (p : α × (Nat → Gh)) => T.len p.1 p.2) (l := []) (by simp) (by show (w.heap.push _)[w.heap.size]? = _; simp)
theorem appendG {α : Type} {T : Ty α} {d : Nat} {s x : Operand} {t ty e : TypeId} {pos : String} {after : Array Edge} {zv : Value} {g1 : Gh} {n1 n2 c1 c2 : Nat} {a1 a2 : Option Addr} {l1 l2 : List α} {s2 : Nat → Nat → Gh} (q : List α) (hq : l1 ++ l2 = q) (H : FrG D n l a)
  (hs : ev l [] s = some (.slice a1 n1 c1)) (hx : ev l [] x = some (.slice a2 n2 c2)) (ha1 : g1.a = a1) (hc1 : g1.c = c1) (hn1 : l1.length = n1) (hn2 : l2.length = n2)
  (hu : P.underlying t = some (.slice e)) (hi : (P.info? e).map (fun i => (i.size, Nat.ble i.bytes 1024, i.zero)) = some (T.z, true, some zv)) (hzs : zv.cells.size = T.z) (hz : Nat.blt 0 T.z = true)
  (how : Ow e (encp T) T.z w g1.a g1.c (zipG l1 g1.s 0)) (hsl : Sl (encp T) T.z w a2 (zipG l2 s2 0)) (hl : V.ln l1 + V.ln l2 ≤ 137438953472) :
  Stp P ⟨some d, .call ⟨.builtin .append, #[s, x], #[t, t]⟩, ty, pos, after, none⟩ a w fun v w' => ∃ g : Gh, v = .slice g.a q.length g.c ∧ Kp (abl g1.a) w w' ∧ (g.a = g1.a ∨ abl g.a = [w.heap.size]) ∧ Ow e (encp T) T.z w' g.a g.c (zipG q g.s 0) ∧ g.s = sApp l1.length g1.s s2 := by
 subst hq ha1 hc1
 refine (o_append (P := P) (enc := encp T) (z := T.z) (d := d) (ty := ty) (pos := pos) (after := after) (fun p => T.len p.1 p.2) (fun p => T.one p.1 p.2) (zipG l1 g1.s 0 ++ zipG l2 s2 0) rfl H hs hx (by rw [zipG_len]; exact hn1) (by rw [zipG_len]; exact hn2) hu hi hzs hz how hsl (by unfold V.ln at hl ⊢; rw [zipG_len, zipG_len]; exact hl)).mono ?_
 rintro v w' ⟨ar, cr, rfl, hk, hor, ho⟩
 refine ⟨.mk ar cr (sApp l1.length g1.s s2), ?_, hk, hor, ?_, rfl⟩
 ·simp [Gh.a, Gh.c, zipG_len]
 ·show Ow e (encp T) T.z w' ar cr (zipG (l1 ++ l2) (sApp l1.length g1.s s2) 0)
  rw [zipG_app]
  exact ho
theorem inn_app {α : Type} {T : Ty α} {M : Av} {w : World} {l1 l2 : List α} {s1 s2 : Nat → Nat → Gh} (h1 : ∀ i (h : i < l1.length), T.inn M w l1[i] (s1 i)) (h2 : ∀ i (h : i < l2.length), T.inn M w l2[i] (s2 i)) :
  ∀ i (h : i < (l1 ++ l2).length), T.inn M w (l1 ++ l2)[i] (sApp l1.length s1 s2 i) := fun i hi => by
 by_cases hl : i < l1.length
 ·rw [List.getElem_append_left hl]
  simp only [sApp, hl, if_true]
  exact h1 i hl
 ·rw [List.getElem_append_right (by omega)]
  simp only [sApp, hl, if_false]
  exact h2 _ _
theorem o_app {α : Type} {T : Ty α} {d : Nat} {s x : Operand} {t ty e : TypeId} {pos : String} {after : Array Edge} {zv : Value} {g1 g2 : Gh} {n1 n2 c1 c2 : Nat} {a1 a2 : Option Addr} {l1 l2 : List α} (q : List α) (hq : l1 ++ l2 = q) (H : FrG D n l a) (hS : S0 M [.own e T l1 g1, .im T l2 g2] w)
  (hs : ev l [] s = some (.slice a1 n1 c1)) (hx : ev l [] x = some (.slice a2 n2 c2)) (ha1 : g1.a = a1) (hc1 : g1.c = c1) (ha2 : g2.a = a2) (hn1 : l1.length = n1) (hn2 : l2.length = n2)
  (hu : P.underlying t = some (.slice e)) (hi : (P.info? e).map (fun i => (i.size, Nat.ble i.bytes 1024, i.zero)) = some (T.z, true, some zv)) (hzs : zv.cells.size = T.z) (hz : Nat.blt 0 T.z = true)
  (hl : V.ln l1 + V.ln l2 ≤ 137438953472) :
  Stp P ⟨some d, .call ⟨.builtin .append, #[s, x], #[t, t]⟩, ty, pos, after, none⟩ a w fun v w' => ∃ g : Gh, v = .slice g.a q.length g.c ∧ SH M (fpl [.own e T l1 g1, .im T l2 g2]) w [.own e T q g] w' := by
 subst ha2
 have ho := hS.ow 0 rfl
 have hm := hS.im 1 rfl
 refine (appendG (P := P) (d := d) (ty := ty) (pos := pos) (after := after) (g1 := g1) (s2 := g2.s) (l1 := l1) (l2 := l2) q hq H hs hx ha1 hc1 hn1 hn2 hu hi hzs hz ho.ow hm.zip hl).mono ?_
 rintro v w' ⟨g, rfl, hk, hor, how, hgs⟩
 have hk' : Kp (fpl [.own e T l1 g1, .im T l2 g2]) w w' := hk.wide (by intro b hb; simp only [fpl, Ent.own, List.mem_append]; exact .inl hb)
 have lo : ∀ b ∈ fpl [Ent.own e T q g], w.heap.size ≤ b ∨ b ∈ fpl [.own e T l1 g1, .im T l2 g2] := by
  intro b hb
  simp only [fpl, Ent.own, List.append_nil] at hb
  rcases hor with h | h
  ·exact .inr (by simp only [fpl, Ent.own, List.mem_append]; exact .inl (h ▸ hb))
  ·rw [h] at hb; simp at hb; exact .inl (by omega)
 refine ⟨g, rfl, SH.step hS hk' (by simp) lo ?_⟩
 intro f hf
 rw [List.mem_singleton] at hf
 subst hf
 refine ⟨how, ?_⟩
 subst hq
 rw [hgs]
 exact inn_app (fun i hi => T.step hS hk' lo (ho.inn i hi)) (fun i hi => T.step hS hk' lo (hm.2 i hi))
theorem o_app2 {α : Type} {T : Ty α} {d : Nat} {s x : Operand} {t ty e e2 : TypeId} {pos : String} {after : Array Edge} {zv : Value} {g1 g2 : Gh} {n1 n2 c1 c2 : Nat} {a1 a2 : Option Addr} {l1 l2 : List α} (q : List α) (hq : l1 ++ l2 = q) (H : FrG D n l a) (hS : S0 M [.own e T l1 g1, .own e2 T l2 g2] w)
  (hs : ev l [] s = some (.slice a1 n1 c1)) (hx : ev l [] x = some (.slice a2 n2 c2)) (ha1 : g1.a = a1) (hc1 : g1.c = c1) (ha2 : g2.a = a2) (hn1 : l1.length = n1) (hn2 : l2.length = n2)
  (hu : P.underlying t = some (.slice e)) (hi : (P.info? e).map (fun i => (i.size, Nat.ble i.bytes 1024, i.zero)) = some (T.z, true, some zv)) (hzs : zv.cells.size = T.z) (hz : Nat.blt 0 T.z = true)
  (hl : V.ln l1 + V.ln l2 ≤ 137438953472) :
  Stp P ⟨some d, .call ⟨.builtin .append, #[s, x], #[t, t]⟩, ty, pos, after, none⟩ a w fun v w' => ∃ g : Gh, v = .slice g.a q.length g.c ∧ SH M (fpl [.own e T l1 g1, .own e2 T l2 g2]) w [.own e T q g, .own e2 T l2 g2] w' := by
 subst ha2
 have ho := hS.ow 0 rfl
 have hm := hS.ow 1 rfl
 have hd : Dj (abl g1.a) (abl g2.a) := by
  have := hS.nd
  rw [List.pairwise_cons] at this
  exact this.1 (.own e2 T l2 g2) (by simp)
 refine (appendG (P := P) (d := d) (ty := ty) (pos := pos) (after := after) (g1 := g1) (s2 := g2.s) (l1 := l1) (l2 := l2) q hq H hs hx ha1 hc1 hn1 hn2 hu hi hzs hz ho.ow hm.sl0.zip hl).mono ?_
 rintro v w' ⟨g, rfl, hk, hor, how, hgs⟩
 have hk' : Kp (fpl [.own e T l1 g1, .own e2 T l2 g2]) w w' := hk.wide (by intro b hb; simp only [fpl, Ent.own, List.mem_append]; exact .inl hb)
 have lo : ∀ b ∈ fpl [Ent.own e T q g, .own e2 T l2 g2], w.heap.size ≤ b ∨ b ∈ fpl [.own e T l1 g1, .own e2 T l2 g2] := by
  intro b hb
  simp only [fpl, Ent.own, List.append_nil, List.mem_append] at hb
  rcases hb with hb | hb
  ·rcases hor with h | h
   ·exact .inr (by simp only [fpl, Ent.own, List.mem_append]; exact .inl (h ▸ hb))
   ·rw [h] at hb; simp at hb; exact .inl (by omega)
  ·exact .inr (by simp only [fpl, Ent.own, List.mem_append]; exact .inr (.inl hb))
 refine ⟨g, rfl, SH.step hS hk' ?_ lo ?_⟩
 ·rw [List.pairwise_cons]
  refine ⟨fun f hf => ?_, by simp⟩
  rw [List.mem_singleton] at hf
  subst hf
  intro y hy hy2
  rcases hor with h | h
  ·exact hd y (h ▸ hy) hy2
  ·have hy' : y ∈ abl g.a := hy
   rw [h] at hy'; simp at hy'
   have := hm.ow.lt y hy2
   omega
 ·intro f hf
  rcases List.mem_cons.1 hf with rfl | hf
  ·refine ⟨how, ?_⟩
   subst hq
   rw [hgs]
   exact inn_app (fun i hi => T.step hS hk' lo (ho.inn i hi)) (fun i hi => T.step hS hk' lo (hm.inn i hi))
  ·rw [List.mem_singleton] at hf
   subst hf
   exact ⟨hm.ow.kp hk (fun b hb hb' => hd b hb' hb), fun i hi => T.step hS hk' lo (hm.inn i hi)⟩
end
def subl {α : Type} (l : List α) (i j : Int) : List α := (l.drop i.toNat).take (j.toNat - i.toNat)
theorem subl_len {α : Type} (l : List α) {i j : Int} (h : 0 ≤ i ∧ i ≤ j ∧ j ≤ ln l) : (subl l i j).length = j.toNat - i.toNat := by
 unfold ln at h
 simp only [subl, List.length_take, List.length_drop]
 omega
section
variable {P : Program} {a : Act} {w : World} {n : Nat} {l : SF} {M : Av}
theorem SlG.sub {α : Type} {T : Ty α} {q : List α} {g : Gh} (hs : SlG T M w q g) {i j : Int} (hij : 0 ≤ i ∧ i ≤ j ∧ j ≤ ln q) :
  SlG T M w (subl q i j) (.mk (if g.c = i.toNat then g.a else g.a.map (·.add (i.toNat * T.z))) (g.c - i.toNat) (fun k => g.s (i.toNat + k))) := by
 have hj : j.toNat ≤ q.length := by unfold ln at hij; omega
 have hc := hs.1.cp
 rcases Nat.eq_zero_or_pos (subl q i j).length with h0 | h0
 ·have := List.eq_nil_of_length_eq_zero h0
  rw [this]
  exact SlG.nil
 ·rw [subl_len q hij] at h0
  have hl : 0 < q.length := by omega
  have hok := hs.1.ok hl
  unfold oka at hok
  have hne : ¬ g.c = i.toNat := by omega
  have ea : (if g.c = i.toNat then g.a else g.a.map (·.add (i.toNat * T.z))) = some ⟨ab g.a, ao g.a + i.toNat * T.z, none⟩ := by
   rw [if_neg hne, hok]
   simp [Addr.add_zero', ab, ao]
  rw [ea]
  refine ⟨⟨fun _ => rfl, fun _ => hs.1.lt hl, fun _ => hs.1.av hl, fun k hk m v hv => ?_, ?_⟩, fun k hk => ?_⟩
  ·rw [subl_len q hij] at hk
   have hk2 : i.toNat + k < q.length := by omega
   have hg : (subl q i j)[k]'(by rw [subl_len q hij]; exact hk) = q[i.toNat + k] := by simp [subl]
   rw [hg] at hv
   have := hs.1.get (i.toNat + k) hk2 m v hv
   show w.cell? ⟨ab g.a, ao g.a + i.toNat * T.z + k * T.z + m, none⟩ = some v
   rw [Nat.add_mul, ← Nat.add_assoc] at this
   exact this
  ·rw [subl_len q hij]
   show j.toNat - i.toNat ≤ g.c - i.toNat
   omega
  ·rw [subl_len q hij] at hk
   have hk2 : i.toNat + k < q.length := by omega
   have hg : (subl q i j)[k]'(by rw [subl_len q hij]; exact hk) = q[i.toNat + k] := by simp [subl]
   rw [hg]
   exact hs.2 _ hk2
theorem o_sub {α : Type} {T : Ty α} {d : Nat} {t E ty : TypeId} {x : Operand} {lo hi : Option Operand} {pos : String} {after : Array Edge} {g : Gh} {q : List α} {n0 c0 : Nat} {a0 : Option Addr} {L : List Ent} (i j : Int) (lo' hi' : Option Value) (H : FrG D n l a) (hS : S0 M L w) (hs : SlG T (AvL M L) w q g)
  (hx : ev l [] x = some (.slice a0 n0 c0)) (ha : g.a = a0) (hc : g.c = c0) (hn : q.length = n0) (hlo : optEv l [] lo = some lo') (hhi : optEv l [] hi = some hi')
  (h1 : (lo' = none ∧ i = 0) ∨ ∃ k, lo' = some (.int k i)) (h2 : (hi' = none ∧ j = ln q) ∨ ∃ k, hi' = some (.int k j))
  (hu : P.underlying t = some (.slice E)) (hz : (P.info? E).map (·.size) = some T.z) (hij : 0 ≤ i ∧ i ≤ j ∧ j ≤ ln q) :
  Stp P ⟨some d, .slice t x lo hi none, ty, pos, after, none⟩ a w fun v w' => ∃ g' : Gh, v = .slice g'.a (subl q i j).length g'.c ∧ SH M (fpl L) w (.im T (subl q i j) g' :: L) w' := by
 subst ha hc hn
 have optv : ∀ (y : Option Operand) v, optEv l [] y = some v → y.map a.eval = v := by
  intro y v hy
  cases y with
  | none => simp only [optEv, Option.some.injEq] at hy; subst hy; rfl
  | some z =>
   simp only [optEv] at hy
   split at hy
   ·rename_i u hu
    simp only [Option.some.injEq] at hy
    subst hy
    simp [H.ev (okc_nil a) hu]
   ·cases hy
 have hj : j.toNat ≤ q.length := by unfold ln at hij; omega
 have hlc := hs.1.cp
 have hsz : (sizeOf E).run P w = .ok T.z w := size_of_info hz
 refine Stp.of_run (v := .slice (if g.c = i.toNat then g.a else g.a.map (·.add (i.toNat * T.z))) (j.toNat - i.toNat) (g.c - i.toNat)) (w' := w) ?_ ⟨.mk (if g.c = i.toNat then g.a else g.a.map (·.add (i.toNat * T.z))) (g.c - i.toNat) (fun k => g.s (i.toNat + k)), ?_, hS.addIm (hs.sub hij)⟩
 ·have hb : (Instr.sliceBounds true q.length g.c lo' hi' none).run P w = .ok (i.toNat, j.toNat, g.c) w := by
   have q1 : i.toNat ≤ j.toNat := by omega
   have q2 : j.toNat ≤ g.c := by omega
   have q0 := hij.1
   have q5 : (j : Int) ≤ (g.c : Int) := by omega
   have q6 : 0 ≤ j := by omega
   have q7 := hij.2.1
   rcases h2 with ⟨rfl, rfl⟩ | ⟨k', rfl⟩ <;> rcases h1 with ⟨rfl, rfl⟩ | ⟨k, rfl⟩
   ·simp [Instr.sliceBounds, ln]
   ·have : i ≤ (q.length : Int) := hij.2.1
    simp [Instr.sliceBounds, Instr.sliceBound, asIntOf, hij.1, this, ln]
   ·simp [Instr.sliceBounds, Instr.sliceBound, asIntOf, q5, q6]
   ·have q8 : i ≤ max j 0 := by omega
    simp [Instr.sliceBounds, Instr.sliceBound, asIntOf, q5, q6, q0, q8]
  simp only [execOp, H.ev (okc_nil a) hx, Instr.sliceAt, Sem.run_bind, run_underlying hu, Result.andThen_ok, optv _ _ hlo, optv _ _ hhi, Option.map_none, Instr.slice, hb, hsz, Sem.run_pure]
 ·rw [subl_len q hij]
  rfl
end
theorem conv_slG {P : Program} {w : World} {s t E : TypeId} {l : List Int} {g : Gh} {M : Av} (hs : P.underlying s = some (.slice E)) (ht : P.underlying t = some .string) (hE : P.underlying E = some (.int .u8)) (h : SlG (tI .u8) M w l g) :
  ∀ w', Below w.heap.size w w' → (convert s t (.slice g.a l.length g.c)).run P w' = .ok (.string ⟨⟨toB l⟩⟩) w' :=
 conv_sl hs ht hE ⟨h.1.ok, h.1.lt, fun i hi j v hv => h.1.get i hi j v hv⟩
section
variable {P : Program} {a : Act} {w : World} {n : Nat} {l : SF} {M : Av}
theorem o_bytes {d : Nat} {s t : TypeId} {E : TypeId} {x : Operand} {ty : TypeId} {pos : String} {after : Array Edge} {str : List UInt8} (H : FrG D n l a) (hS : S0 M [] w)
  (hx : ev l [] x = some (.string ⟨⟨str⟩⟩)) (hs : P.underlying s = some .string) (ht : P.underlying t = some (.slice E)) (hE : P.underlying E = some (.int .u8)) :
  Stp P ⟨some d, .convert s t x, ty, pos, after, none⟩ a w fun v w' => ∃ (b c : Nat), v = .slice (some ⟨b, 0, none⟩) (ofB str).length c ∧ (ofB str).length ≤ c ∧ SH M (fpl []) w [.row .u8 b (ofB str) (V.ln (ofB str))] w' := by
 have hsz : (ByteArray.mk ⟨str⟩).size = str.length := rfl
 have hq : ∀ n e, (Question.appendCap n 0 e).forced = false := fun _ _ => rfl
 obtain ⟨cap, w1, hch, hw1, hcap0⟩ : ∃ cap w1, (choose (.appendCap str.length 0 E)).run P w = .ok cap w1 ∧ w1 = { w with drawn := w.drawn + 1 } ∧ str.length ≤ cap := ⟨_, _, by rw [run_choose]; simp [hq]; rfl, rfl, Nat.le_add_right _ _⟩
 have hcap : (ofB str).length ≤ cap := by simpa [ofB] using hcap0
 let cs : List Value := (ofB str).map (Value.int .u8) ++ List.replicate (cap - str.length) (.int .u8 0)
 let w2 : World := w1.alloc (.cells ⟨cs⟩ E)
 have hn := new_blk w1 cs E
 have hb1 : Below w.heap.size w w1 := by rw [hw1]; exact ⟨rfl, rfl, rfl, Nat.le_refl _, fun _ _ => rfl⟩
 have hsz1 : w1.heap.size = w.heap.size := by rw [hw1]
 have harr : ((ByteArray.mk ⟨str⟩).data.map fun b => Value.int .u8 (b.toNat : Int)) ++ Array.replicate (cap - str.length) (.int .u8 0) = ⟨cs⟩ := by
  apply Array.ext'
  simp [cs, ofB, List.map_map, Function.comp_def]
 obtain ⟨T, hT⟩ := hn.2.get
 have hshape : w2.shape? w1.heap.size = some (T, cs.length) := by
  simp only [World.shape?, w2, hT]
  rfl
 let w3 : World := w2.freeze ⟨w1.heap.size, cs.length, none⟩ 1
 have hrun : (convert s t (.string ⟨⟨str⟩⟩)).run P w = .ok (.slice (some ⟨w1.heap.size, 0, none⟩) str.length cap) w3 := by
  simp only [convert, Sem.run_bind, run_underlying hs, run_underlying ht, run_underlying hE, Result.andThen_ok, Conv.stringToBytes, hsz, hch, harr]
  simp [newRow, markStringish, hshape, w3, w2]
 have hget : w3.heap[w1.heap.size]? = some (.cells ⟨cs⟩ T (cs.length, cs.length + 1)) := by
  simp only [w3, World.freeze, Nat.one_ne_zero, if_false, Array.getElem?_modify, if_true, w2, hT]
  simp
 have hk3 : Kp [] w w3 := by
  refine ⟨?_, ?_, ?_, ?_, ?_⟩
  ·exact (hn.1.os).trans hb1.os
  ·exact (hn.1.tape).trans hb1.tape
  ·exact (hn.1.output).trans hb1.output
  ·have := hn.1.size
   simp only [w3, World.freeze, Nat.one_ne_zero, if_false, Array.size_modify, w2]
   omega
  ·intro q hq' _
   have hne : q ≠ w1.heap.size := by omega
   simp only [w3, World.freeze, Nat.one_ne_zero, if_false, Array.getElem?_modify, if_neg (Ne.symm hne), w2]
   exact (hn.1.block q (by omega) (by simp)).trans (hb1.block q hq')
 have hlen : (ofB str).length = str.length := by simp [ofB]
 refine Stp.of_run (v := .slice (some ⟨w1.heap.size, 0, none⟩) (ofB str).length cap) (w' := w3) ?_ ⟨w1.heap.size, cap, rfl, hcap, SH.step hS hk3 (by simp) (by simp [fpl, Ent.row]; omega) ?_⟩
 ·rw [hlen]
  simp [execOp, H.ev (okc_nil a) hx, hrun]
 ·intro e he
  rw [List.mem_singleton] at he
  subst he
  refine ⟨⟨?_, T, _, _, hget, .inr ?_⟩, rfl⟩
  ·rcases Nat.lt_or_ge w1.heap.size w3.heap.size with h | h
   ·exact h
   ·rw [Array.getElem?_eq_none h] at hget; cases hget
  ·show (ofB str).length ≤ cs.length
   simp [cs]
end
theorem zipG_rep {α : Type} (T : Ty α) (x : α) (g : Nat → Gh) : ∀ (n i : Nat), (zipG (List.replicate n x) (fun _ => g) i).map (encp T) = List.replicate n (T.enc x g)
 | 0, _ => rfl
 | n + 1, i => by simp only [List.replicate_succ, zipG, List.map_cons, zipG_rep T x g n (i + 1)]; rfl
theorem rep_get {l : List Value} {z : Nat} (hz : l.length = z) (h0 : 0 < z) : ∀ (n q : Nat), q < n * z → ((List.replicate n l).flatten)[q]? = l[q % z]?
 | 0, q, h => by omega
 | n + 1, q, h => by
  rw [List.replicate_succ, List.flatten_cons]
  by_cases hq : q < z
  ·rw [List.getElem?_append_left (by omega), Nat.mod_eq_of_lt hq]
  ·rw [List.getElem?_append_right (by omega), hz, rep_get hz h0 n (q - z) (by rw [Nat.add_mul, Nat.one_mul] at h; omega), ← Nat.mod_eq_sub_mod (by omega)]
theorem made_take {zc : Array Value} {z n c : Nat} (hz : zc.size = z) (h0 : 0 < z) (hn : n ≤ c) : (madeCells zc (c * z)).toList.take (n * z) = (List.replicate n zc.toList).flatten := by
 have hl : (List.replicate n zc.toList).flatten.length = n * z := by simp [hz]
 apply List.ext_getElem?
 intro q
 by_cases hq : q < n * z
 ·rw [rep_get (by simpa using hz) h0 n q hq, List.getElem?_take_of_lt hq]
  have hqc : q < c * z := Nat.lt_of_lt_of_le hq (Nat.mul_le_mul_right z hn)
  have hm : q % z < zc.size := by rw [hz]; exact Nat.mod_lt _ h0
  simp only [madeCells, Array.toList_map, Array.toList_range, List.getElem?_map, List.getElem?_range, hqc, Option.map_some, hz]
  rw [Array.getElem?_toList, getElem!_pos zc (q % z) hm, Array.getElem?_eq_getElem hm]
 ·rw [List.getElem?_eq_none (by simp; omega), List.getElem?_eq_none (by omega)]
section
variable {P : Program} {a : Act} {w : World} {n : Nat} {l : SF} {M : Av}
theorem o_make {α : Type} {T : Ty α} {d : Nat} {t E : TypeId} {lo co : Operand} {zv : Value} {ty : TypeId} {pos : String} {after : Array Edge} {kl kc : IntKind} {len cap : Int} (x0 : α) (H : FrG D n l a) (hS : S0 M [] w)
  (hl : ev l [] lo = some (.int kl len)) (hc : ev l [] co = some (.int kc cap)) (hu : P.underlying t = some (.slice E)) (hi : (P.info? E).map (fun i => (i.size, Nat.ble i.bytes 1024, i.zero)) = some (T.z, true, some zv))
  (hz : Nat.blt 0 T.z = true) (hzv : T.enc x0 (fun _ => .nil) = zv.cells.toList) (hin : ∀ M w, T.inn M w x0 (fun _ => .nil)) (hb : 0 ≤ len ∧ len ≤ cap ∧ cap ≤ 137438953472) :
  Stp P ⟨some d, .makeSlice t lo co, ty, pos, after, none⟩ a w fun v w' => ∃ g : Gh, v = .slice g.a (List.replicate len.toNat x0).length g.c ∧ SH M (fpl []) w [.own E T (List.replicate len.toNat x0) g] w' := by
 have hz0 : 0 < T.z := by simpa [Nat.blt, Nat.lt_iff_add_one_le] using hz
 cases hinf : P.info? E with
 | none => simp [hinf] at hi
 | some inf =>
  simp only [hinf, Option.map_some, Option.some.injEq, Prod.mk.injEq] at hi
  obtain ⟨h1, h2, h3⟩ := hi
  have h2 : inf.bytes ≤ 1024 := by simpa using h2
  have hby : (inf.bytes : Int) * cap ≤ 281474976710656 := by
   have : (inf.bytes : Int) * cap ≤ 1024 * 137438953472 := Int.mul_le_mul (by omega) hb.2.2 (by omega) (by omega)
   omega
  have hr := run_make (P := P) w t E inf zv hu hinf h3 kl kc len cap hb.1 hb.2.1 hby (by omega)
  have hzs : zv.cells.size = T.z := by
   have := T.len x0 (fun _ => .nil)
   rw [hzv] at this
   simpa using this
  have hN := new_blk w (madeCells zv.cells (cap.toNat * inf.size)).toList E
  have hNeq : w.alloc (.cells (madeCells zv.cells (cap.toNat * inf.size)) E) = w.alloc (.cells ⟨(madeCells zv.cells (cap.toNat * inf.size)).toList⟩ E) := rfl
  rw [hNeq] at hr
  refine Stp.of_run (v := .slice (some ⟨w.heap.size, 0, none⟩) len.toNat cap.toNat) (w' := w.alloc (.cells ⟨(madeCells zv.cells (cap.toNat * inf.size)).toList⟩ E)) ?_ ⟨.mk (some ⟨w.heap.size, 0, none⟩) cap.toNat (fun _ _ => .nil), ?_, SH.step hS hN.1 (by simp) (by simp [fpl, Ent.own, Gh.a, abl]) ?_⟩
  ·simp [execOp, H.ev (okc_nil a) hl, H.ev (okc_nil a) hc, hr]
  ·simp [Gh.a, Gh.c]
  ·intro e he
   rw [List.mem_singleton] at he
   subst he
   refine ⟨⟨⟨?_, .inr ⟨w.heap.size, cap.toNat, madeCells zv.cells (cap.toNat * inf.size), ?_, Nat.zero_le _, ?_, ?_, ?_, ?_, ?_⟩⟩, ?_, ?_⟩, fun i hi => ?_⟩
   ·rw [flat_len (enc := encp T) (fun p => T.len p.1 p.2), zipG_len]
   ·simp [zipG_len, Gh.a, Gh.c]
   ·show (w.heap.push _)[w.heap.size]? = _
    simp
   ·rw [zipG_len]; simp; omega
   ·unfold maxLen; omega
   ·simp [madeCells, h1]
   ·rw [zipG_len, List.length_replicate, h1]
    have e : (zipG (List.replicate len.toNat x0) (Gh.mk (some ⟨w.heap.size, 0, none⟩) cap.toNat (fun _ _ => .nil)).s 0).map (encp T) = List.replicate len.toNat zv.cells.toList := by
     rw [show (Gh.mk (some ⟨w.heap.size, 0, none⟩) cap.toNat (fun _ _ => .nil)).s = fun _ => (fun _ => Gh.nil) from rfl, zipG_rep, hzv]
    rw [e]
    exact made_take hzs hz0 (by omega)
   ·intro y hy
    simp only [Gh.a, abl, List.mem_singleton] at hy
    subst hy
    exact hN.2.lt
   ·rw [zipG_len]; simp; omega
   ·rw [List.getElem_replicate]
    exact hin _ _
end
theorem run_storeCellsT {P : Program} {b off : Nat} {T : TypeId} : ∀ (vs : List Value) (j : Nat) (w : World) (cs : List Value), oneCells vs = true → w.heap[b]? = some (.cells ⟨cs⟩ T (0, 0)) → off + j + vs.length ≤ cs.length →
  ∃ w', (storeCells ⟨b, off, none⟩ vs j).run P w = .ok () w' ∧ Kp [b] w w' ∧ w'.heap[b]? = some (.cells ⟨setL cs (off + j) vs⟩ T (0, 0))
 | [], j, w, cs, _, hb, _ => ⟨w, by simp [storeCells], Kp.refl _ _, by simpa [setL] using hb⟩
 | v :: r, j, w, cs, ho, hT, hl => by
  simp only [oneCells, Bool.and_eq_true] at ho
  have hj : off + j < cs.length := by simp at hl; omega
  have hc : w.cell? ⟨b, off + j, none⟩ = some cs[off + j] := by
   simp only [World.cell?, hT, Option.isSome_none, Bool.false_eq_true, if_false, List.getElem?_toArray]
   exact List.getElem?_eq_getElem hj
  have hf : w.frozen? ⟨b, off + j, none⟩ = false := by simp [World.frozen?, hT]
  have hst : (store ⟨b, off + j, none⟩ v).run P w = .ok () (w.setCell ⟨b, off + j, none⟩ v) := by
   rw [run_store P w _ v .plain ho.1, hc]
   simp [hf]
  obtain ⟨w', h1, h2, h3⟩ := run_storeCellsT (P := P) (off := off) r (j + 1) _ _ ho.2 (heap_setCell_get (off := off + j) (v := v) hT) (by simp only [List.length_cons] at hl; simp only [List.length_set]; omega)
  refine ⟨w', ?_, (kp_setCell w ⟨b, off + j, none⟩ v).trans h2 (by simp), h3⟩
  simp only [storeCells, Sem.run_bind, Addr.add_zero', hst, Result.andThen_ok]
  exact h1
def setl {α : Type} (l : List α) (i : Int) (x : α) : List α := l.set i.toNat x
theorem setl_len {α : Type} (l : List α) (i : Int) (x : α) : (setl l i x).length = l.length := by simp [setl]
theorem setL_left : ∀ (vs p q : List Value) (off : Nat), setL (p ++ q) (p.length + off) vs = p ++ setL q off vs
 | [], _, _, _ => rfl
 | v :: r, p, q, off => by
  simp only [setL]
  rw [List.set_append_right _ _ (by omega), Nat.add_sub_cancel_left, Nat.add_assoc]
  exact setL_left r p _ (off + 1)
theorem setL_right : ∀ (vs q r : List Value) (off : Nat), off + vs.length ≤ q.length → setL (q ++ r) off vs = setL q off vs ++ r
 | [], _, _, _, _ => rfl
 | v :: t, q, r, off, h => by
  simp only [List.length_cons] at h
  simp only [setL]
  rw [List.set_append_left _ _ (by omega)]
  exact setL_right t _ r (off + 1) (by simp; omega)
theorem setL_len : ∀ (vs cs : List Value) (off : Nat), (setL cs off vs).length = cs.length
 | [], _, _ => rfl
 | v :: r, cs, off => by simp only [setL]; rw [setL_len r]; simp
theorem setL_take : ∀ (vs cs : List Value) (off k : Nat), off + vs.length ≤ k → (setL cs off vs).take k = setL (cs.take k) off vs
 | [], _, _, _, _ => rfl
 | v :: r, cs, off, k, h => by
  simp only [List.length_cons] at h
  simp only [setL]
  rw [setL_take r _ (off + 1) k (by omega), List.take_set]
theorem zipG_set {α : Type} {T : Ty α} {l : List α} {s : Nat → Nat → Gh} {x : α} {gx : Nat → Gh} {i off z : Nat} {vs : List Value} (hz : ∀ x g, (T.enc x g).length = z) (hi : i < l.length) (he : setL (T.enc l[i] (s i)) off vs = T.enc x gx) (hv : off + vs.length ≤ z) :
  setL ((zipG l s 0).map (encp T)).flatten (i * z + off) vs = ((zipG (l.set i x) (fun k => if k = i then gx else s k) 0).map (encp T)).flatten := by
 have e1 : l = l.take i ++ l[i] :: l.drop (i + 1) := by rw [List.getElem_cons_drop, List.take_append_drop]
 have e2 : l.set i x = l.take i ++ x :: l.drop (i + 1) := List.set_eq_take_append_cons_drop .. ▸ by simp [hi]
 have hlt : (l.take i).length = i := by simp; omega
 rw [e2]
 conv => lhs; rw [e1]
 rw [zipG_cons, zipG_cons]
 simp only [zipG, hlt, Nat.zero_add, List.map_append, List.map_cons, List.flatten_append, List.flatten_cons]
 have hpl : (((zipG (l.take i) s 0).map (encp T)).flatten).length = i * z := by
  rw [flat_len (enc := encp T) (z := z) (fun p => hz p.1 p.2), zipG_len, hlt]
 rw [← hpl, setL_left, setL_right _ _ _ _ (by simp only [encp]; rw [hz]; exact hv)]
 have ea : zipG (l.take i) (fun k => if k = i then gx else s k) 0 = zipG (l.take i) s 0 := zipG_congr _ _ _ _ fun q hq => by
  rw [hlt] at hq
  rw [Nat.zero_add, if_neg (by omega)]
 have eb : zipG (l.drop (i + 1)) (fun k => if k = i then gx else s k) (i + 1) = zipG (l.drop (i + 1)) s (i + 1) := zipG_congr _ _ _ _ fun q _ => by rw [if_neg (by omega)]
 rw [ea, eb]
 simp only [encp, if_true]
 rw [he]
section
variable {P : Program} {a : Act} {w : World} {n : Nat} {l : SF} {M : Av}
theorem o_estore {α : Type} [Inhabited α] {T : Ty α} {t E ty : TypeId} {x y : Operand} {pos : String} {after : Array Edge} {g : Gh} {q : List α} {L : List Ent} {ix : Int} {off bb oo : Nat} {v : Value} (x' : α) (gx : Nat → Gh) (H : FrG D n l a) (hS : S0 M (.own E T q g :: L) w)
  (hx : ev l [] x = some (.pointer (some ⟨bb, oo, none⟩))) (hbb : ab g.a = bb) (hoo : ao g.a + ix.toNat * T.z + off = oo) (hy : ev l [] y = some v)
  (hz : (P.info? t).map (·.size) = some v.cells.toList.length) (h1 : oneCells v.cells.toList = true) (hl : Nat.ble (off + v.cells.toList.length) T.z = true) (hix : 0 ≤ ix ∧ ix < ln q)
  (he : setL (T.enc (gi q ix) (g.s ix.toNat)) off v.cells.toList = T.enc x' gx) (hin : T.inn (AvL M (.own E T q g :: L)) w x' gx) (_hL : fpl L = []) :
  Stp P ⟨none, .store t x y, ty, pos, after, none⟩ a w fun _ w' => ∃ s : Nat → Nat → Gh, SH M (fpl (.own E T q g :: L)) w [.own E T (setl q ix x') (.mk g.a g.c s)] w' := by
 subst hbb hoo
 have ho := hS.ow 0 rfl
 have hi : ix.toNat < q.length := by unfold ln at hix; omega
 have hg : gi q ix = q[ix.toNat] := by simp [gi, List.getD_eq_getElem?_getD, List.getElem?_eq_getElem hi]
 rw [hg] at he
 have hlz : off + v.cells.toList.length ≤ T.z := by simpa using hl
 rcases ho.ow.row.2 with ⟨h0, hn0⟩ | ⟨b, cap, cur, hv, _, hw, hc1, hc2, hc3, hc4⟩
 ·rw [zipG_len] at hn0; omega
 ·simp only [Value.slice.injEq] at hv
  obtain ⟨hga, _, hgc⟩ := hv
  rw [zipG_len] at hc1 hc4
  have hab : ab g.a = b := by rw [hga]; rfl
  have hao : ao g.a = 0 := by rw [hga]; rfl
  have hblt : b < w.heap.size := by
   rcases Nat.lt_or_ge b w.heap.size with hb | hb
   ·exact hb
   ·rw [Array.getElem?_eq_none hb] at hw; cases hw
  have hle : ix.toNat * T.z + off + v.cells.toList.length ≤ q.length * T.z := by
   have : (ix.toNat + 1) * T.z ≤ q.length * T.z := Nat.mul_le_mul_right _ hi
   rw [Nat.add_mul, Nat.one_mul] at this
   omega
  have hle2 : q.length * T.z ≤ cur.toList.length := by
   have : q.length * T.z ≤ cap * T.z := Nat.mul_le_mul_right _ hc1
   simpa [hc3] using this
  obtain ⟨w', h2, h3, hT'⟩ := run_storeCellsT (P := P) (off := ix.toNat * T.z + off) v.cells.toList 0 w cur.toList h1 (by simpa using hw) (by omega)
  rw [Nat.add_zero] at hT'
  have hsz : (sizeOf t).run P w = .ok v.cells.size w := size_of_info (by simpa using hz)
  have hkp : Kp (fpl (.own E T q g :: L)) w w' := h3.wide (by intro y hy; simp only [List.mem_singleton] at hy; subst hy; simp only [fpl, List.mem_append]; left; simp only [Ent.own, hga, abl, List.mem_singleton])
  have lo : ∀ s, ∀ y ∈ fpl [Ent.own E T (setl q ix x') (.mk g.a g.c s)], w.heap.size ≤ y ∨ y ∈ fpl (.own E T q g :: L) := fun s y hy => .inr (by
   simp only [fpl, List.append_nil] at hy
   simp only [fpl, List.mem_append]
   exact .inl hy)
  refine Stp.skip (w' := w') ?_ rfl fun _ => ⟨fun k => if k = ix.toNat then gx else g.s k, SH.step hS hkp (by simp) (lo _) ?_⟩
  ·rw [hab, hao, Nat.zero_add] at hx
   simp [execOp, H.ev (okc_nil a) hx, H.ev (okc_nil a) hy, Instr.storeAt, Instr.sureAddr, storeVar, hsz, h2]
  ·intro e hem
   rw [List.mem_singleton] at hem
   subst hem
   have hfl := zipG_set (T := T) (l := q) (s := g.s) (x := x') (gx := gx) (off := off) (vs := v.cells.toList) T.len hi he hlz
   refine ⟨⟨⟨?_, .inr ⟨b, cap, ⟨setL cur.toList (ix.toNat * T.z + off) v.cells.toList⟩, ?_, Nat.zero_le _, by simpa using hT', ?_, hc2, ?_, ?_⟩⟩, ?_, ?_⟩, fun k hk => ?_⟩
   ·rw [flat_len (enc := encp T) (fun p => T.len p.1 p.2), zipG_len]
   ·show Value.slice g.a _ g.c = _
    rw [hga, hgc]
   ·rw [zipG_len]; simp [setl]; exact hc1
   ·simp [setL_len, hc3]
   ·rw [zipG_len]
    show (setL cur.toList _ _).take ((setl q ix x').length * T.z) = _
    rw [setl_len, setL_take _ _ _ _ hle, hc4, hfl]
    rfl
   ·intro y hy
    have : y ∈ abl g.a := hy
    rw [hga] at this
    simp [abl] at this
    subst this
    exact Nat.lt_of_lt_of_le hblt h3.size
   ·rw [zipG_len, setl_len]
    have := ho.ow.ln
    rw [zipG_len] at this
    exact this
   ·have hk2 : k < q.length := by rw [setl_len] at hk; exact hk
    by_cases e : k = ix.toNat
    ·subst e
     have e1 : (setl q ix x')[ix.toNat] = x' := by simp [setl]
     show T.inn _ _ _ (if ix.toNat = ix.toNat then gx else g.s ix.toNat)
     rw [e1, if_pos rfl]
     exact T.step hS hkp (lo _) hin
    ·have e1 : (setl q ix x')[k] = q[k] := by simp [setl, List.getElem_set_ne (fun h => e h.symm)]
     show T.inn _ _ _ (if k = ix.toNat then gx else g.s k)
     rw [e1, if_neg e]
     exact T.step hS hkp (lo _) (ho.inn k hk2)
end
section
variable {P : Program} {Q : Exit → Act → World → Prop} {a : Act} {w : World} {n : Nat} {l : SF} {all : List Oper}
theorem m_stp {i d : Nat} {o : Oper} {K : Value → World → Prop} (ks : List Nat) (lk : SF) (H : FrG D n l a) (ho : all[i]? = some o) (hg : o.guard = none) (hdo : o.dst = some d) (hd : Nat.blt d n = true) (hs : Stp P o a w K)
  (hk : ∀ v, keep (upd l d [] v) ks = some ((d, [], v) :: lk))
  (hK : ∀ a' w' v, FrG D n ((d, [], v) :: lk) a' → K v w' → wpList P all.toArray Q (all.drop (i + 1)) a' w') : wpList P all.toArray Q (all.drop i) a w :=
 wl_wp ho hg fun N hN => hs Q N fun v w' hv => by
  rw [hdo]
  exact hN _ _ (hK _ _ v ((FrG.set (H := H) hd).keep (hk v)) hv)
theorem m_stp0 {i : Nat} {o : Oper} {K : Value → World → Prop} (ks : List Nat) (lk : SF) (H : FrG D n l a) (ho : all[i]? = some o) (hg : o.guard = none) (hdo : o.dst = none) (hs : Stp P o a w K)
  (hk : keep l ks = some lk)
  (hK : ∀ a' w', FrG D n lk a' → (∃ v, K v w') → wpList P all.toArray Q (all.drop (i + 1)) a' w') : wpList P all.toArray Q (all.drop i) a w :=
 wl_wp ho hg fun N hN => hs Q N fun v w' hv => by
  rw [hdo]
  exact hN _ _ (hK _ _ (H.keep hk) ⟨v, hv⟩)
end
def resOn (l : SF) : Chain → Bool
 | [] => true
 | p :: r => resOn l r && match lke l p.1 with
  | some (C, .bool b) => sub1 C r && (b == p.2)
  | _ => false
theorem resOn_ok {n : Nat} {l : SF} {a : Act} (H : FrG D n l a) : ∀ {C : Chain}, resOn l C = true → okc a C
 | [], _ => okc_nil a
 | p :: r, h => by
  unfold resOn at h
  rw [Bool.and_eq_true] at h
  have ih := resOn_ok H h.1
  have h2 := h.2
  split at h2
  ·rename_i C b he
   rw [Bool.and_eq_true] at h2
   have hv := (H.2.2 _ (lke_mem he)).1 (okc_sub h2.1 ih)
   have hb : b = p.2 := by simpa using h2.2
   intro q hq
   rcases List.mem_cons.1 hq with rfl | hq
   ·rw [← hb]; exact hv
   ·exact ih q hq
  ·cases h2
theorem resOff_ok {n : Nat} {l : SF} {a : Act} (H : FrG D n l a) : ∀ (k : Nat) {C : Chain}, (match C.drop k with
  | p :: r => resOn l r && (match lke l p.1 with
   | some (C', .bool b) => sub1 C' r && !(b == p.2)
   | _ => false)
  | [] => false) = true → ¬ okc a C := by
 intro k C h hok
 split at h
 ·rename_i p r hd
  rw [Bool.and_eq_true] at h
  have h2 := h.2
  split at h2
  ·rename_i C' b he
   rw [Bool.and_eq_true] at h2
   have hv := (H.2.2 _ (lke_mem he)).1 (okc_sub h2.1 (resOn_ok H h.1))
   have hp : p ∈ C := List.mem_of_mem_drop (hd ▸ List.mem_cons_self)
   have := hok p hp
   dsimp only at hv
   rw [hv] at this
   simp only [Option.some.injEq, Value.bool.injEq] at this
   rw [this] at h2
   simp at h2
  ·cases h2
 ·cases h
def keepM (l : SF) : List (Nat × Nat) → Option SF
 | [] => some []
 | (t, 0) :: r => match lke l t, keepM l r with
  | some ([], v), some l' => some ((t, [], v) :: l')
  | _, _ => none
 | (t, 1) :: r => match lke l t, keepM l r with
  | some (C, v), some l' => cond (resOn l C) (some ((t, [], v) :: l')) none
  | _, _ => none
 | (t, k + 2) :: r => match lke l t, keepM l r with
  | some (C, _), some l' => cond (match C.drop k with
   | p :: r => resOn l r && (match lke l p.1 with
    | some (C', .bool b) => sub1 C' r && !(b == p.2)
    | _ => false)
   | [] => false) (some ((t, [], undef) :: l')) none
  | _, _ => none
theorem FrG.keepM {n : Nat} {l : SF} {a : Act} (H : FrG D n l a) : ∀ {ks : List (Nat × Nat)} {l' : SF}, V.keepM l ks = some l' → FrG D n l' a
 | [], l', h => by simp [V.keepM] at h; subst h; exact ⟨H.1, H.2.1, by simp⟩
 | (t, 0) :: r, l', h => by
  unfold V.keepM at h
  split at h
  ·rename_i v l2 h1 h2
   simp only [Option.some.injEq] at h; subst h
   exact (H.keepM h2).add ((H.2.2 _ (lke_mem h1)).1 (okc_nil a))
  ·cases h
 | (t, 1) :: r, l', h => by
  unfold V.keepM at h
  split at h
  ·rename_i C v l2 h1 h2
   cases hr : resOn l C with
   | false => rw [hr] at h; cases h
   | true =>
    rw [hr] at h
    simp only [cond_true, Option.some.injEq] at h; subst h
    exact (H.keepM h2).add ((H.2.2 _ (lke_mem h1)).1 (resOn_ok H hr))
  ·cases h
 | (t, k + 2) :: r, l', h => by
  unfold V.keepM at h
  split at h
  ·rename_i C v l2 h1 h2
   cases hr : (match C.drop k with
    | p :: r => resOn l r && (match lke l p.1 with
     | some (C', .bool b) => sub1 C' r && !(b == p.2)
     | _ => false)
    | [] => false) with
   | false => rw [hr] at h; cases h
   | true =>
    rw [hr] at h
    simp only [cond_true, Option.some.injEq] at h; subst h
    exact (H.keepM h2).add ((H.2.2 _ (lke_mem h1)).2 (resOff_ok H k hr))
  ·cases h
section
variable {P : Program} {Q : Exit → Act → World → Prop} {a : Act} {w : World} {n : Nat} {l : SF} {all : List Oper}
def evjM (P : Program) (n : Nat) (all : List Oper) (i j : Nat) (os : List Value) (l : SF) (ks : List (Nat × Nat)) : Option (SF × List Ob) :=
 match evb P n all (all.drop i) (j - i) os l with
 | some (l', obs) => match keepM l' ks with
  | some lk => some (lk, obs)
  | none => none
 | none => none
theorem wl_batchM (i j : Nat) (os : List Value) (ks : List (Nat × Nat)) (lk : SF) (obs : List Ob) (H : FrG D n l a) (hij : Nat.ble i j = true) (he : evjM P n all i j os l ks = some (lk, obs)) (hob : allOb obs w)
  (hK : ∀ a' w', FrG D n lk a' → Below w.heap.size w w' → wpList P all.toArray Q (all.drop j) a' w') : wpList P all.toArray Q (all.drop i) a w := by
 unfold evjM at he
 split at he
 ·rename_i l' obs' h1
  split at he
  ·rename_i lk' h2
   simp only [Option.some.injEq, Prod.mk.injEq] at he
   obtain ⟨rfl, rfl⟩ := he
   refine evb_list (j - i) (all.drop i) os l l' _ a w w (Below.rfl' w) h1 hob H ?_
   intro a' w' H' hb
   have hij' : i ≤ j := by simpa using hij
   rw [List.drop_drop, Nat.add_sub_cancel' hij']
   exact hK a' w' (H'.keepM h2) hb
  ·cases he
 ·cases he
theorem guard_known {s : Nat} {j : Nat} {b : Bool} (H : FrG D n l a) (hj : (all[j]?).bind (·.dst) = some s) (hs : lke l s = some ([], .bool b)) : yielded all.toArray a.tmps j = some b := by
 unfold yielded
 rw [show ((all.toArray[j]?).bind (·.dst)) = some s from by simpa using hj]
 have := (H.2.2 _ (lke_mem hs)).1 (okc_nil a)
 dsimp only at this
 simp only [Option.bind_some, this]
theorem wl_at {i : Nat} {o : Oper} (ho : all[i]? = some o) (h : wpList P all.toArray Q (o :: all.drop (i + 1)) a w) : wpList P all.toArray Q (all.drop i) a w := by
 have hl : i < all.length := (List.getElem?_eq_some_iff.1 ho).1
 have he : all[i] = o := by
  rw [List.getElem?_eq_getElem hl] at ho
  exact Option.some.inj ho
 rw [List.drop_eq_getElem_cons hl, he]
 exact h
theorem m_stpG {i d j : Nat} {op : Op} {ty : TypeId} {pos : String} {after : Array Edge} {want : Bool} {K : Value → World → Prop} (s : Nat) (ks : List Nat) (lk : SF) (H : FrG D n l a) (ho : all[i]? = some ⟨some d, op, ty, pos, after, some (j, want)⟩)
  (hj : (all[j]?).bind (·.dst) = some s) (hg : lke l s = some ([], .bool want)) (hd : Nat.blt d n = true) (hs : Stp P ⟨some d, op, ty, pos, after, none⟩ a w K)
  (hk : ∀ v, keep (upd l d [] v) ks = some ((d, [], v) :: lk))
  (hK : ∀ a' w' v, FrG D n ((d, [], v) :: lk) a' → K v w' → wpList P all.toArray Q (all.drop (i + 1)) a' w') : wpList P all.toArray Q (all.drop i) a w := by
 refine wl_at ho ?_
 unfold wpList
 rw [if_pos (by simp [Region.wanted, guard_known H hj hg])]
 left
 exact hs Q _ fun v w' hv => hK _ _ v ((FrG.set (H := H) hd).keep (hk v)) hv
theorem m_skipG {i d j : Nat} {op : Op} {ty : TypeId} {pos : String} {after : Array Edge} {want b : Bool} (s : Nat) (ks : List Nat) (lk : SF) (H : FrG D n l a) (ho : all[i]? = some ⟨some d, op, ty, pos, after, some (j, want)⟩)
  (hj : (all[j]?).bind (·.dst) = some s) (hg : lke l s = some ([], .bool b)) (hb : (b == want) = false) (hd : Nat.blt d n = true) (hk : keep (upd l d [] undef) ks = some lk)
  (hK : ∀ a', FrG D n lk a' → wpList P all.toArray Q (all.drop (i + 1)) a' w) : wpList P all.toArray Q (all.drop i) a w := by
 refine wl_at ho ?_
 unfold wpList
 rw [if_neg (by simp [Region.wanted, guard_known H hj hg]; intro e; subst e; simp at hb)]
 exact hK _ ((FrG.set (H := H) hd).keep hk)
end
theorem FrG.slot {n : Nat} {l : SF} {a : Act} (H : FrG D n l a) {t : Nat} {v : Value} (h : lke l t = some ([], v)) : a.tmps[t]? = some v := (H.2.2 _ (lke_mem h)).1 (okc_nil a)
section
variable {P : Program} {N R : Post} {ES : List (Nat × Post)} {a : Act} {w : World}
end
end Go.V

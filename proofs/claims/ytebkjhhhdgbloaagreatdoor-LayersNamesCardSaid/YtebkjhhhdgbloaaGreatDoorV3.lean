/-
 More of the small program logic: a region whose order is open and that lays blocks. Nothing here is a statement of this claim.
-/
import Derived.Test.YtebkjhhhdgbloaaGreatDoorV2
namespace Go.V
open Go Go.RowKit
variable {D : List Deferred}
def Stp (P : Program) (o : Oper) (a : Act) (w : World) (K : Value → World → Prop) : Prop :=
 ∀ (Q : Exit → Act → World → Prop) (N : Act → World → Prop), (∀ v w', K v w' → N (a.put o.dst v) w') → o.wp P a w N Q
theorem Stp.mono {P : Program} {o : Oper} {a : Act} {w : World} {K K' : Value → World → Prop} (h : Stp P o a w K) (hk : ∀ v w', K v w' → K' v w') : Stp P o a w K' :=
 fun Q N hN => h Q N fun v w' q => hN v w' (hk v w' q)
theorem Stp.of_yields {P : Program} {o : Oper} {a : Act} {w : World} {v : Value} (h : Yields P o a w v) : Stp P o a w fun u w' => u = v ∧ Below w.heap.size w w' := fun Q N hN => by
 have h1 := h w (Below.refl _ _)
 unfold Oper.quietAt at h1
 unfold Oper.wp
 generalize (execOp a.eval o).run P w = r at *
 cases r with
 | ok n w' =>
  cases n <;> simp only [Oper.quietUpon] at h1 <;> simp only [Oper.upon]
  case value u =>
   obtain ⟨e1, e2⟩ := h1
   rw [e1, e2]
   exact hN _ _ ⟨rfl, Below.refl _ _⟩
  case skip =>
   obtain ⟨e1, e2⟩ := h1
   rw [e1]
   exact hN _ _ ⟨e2.symm, Below.refl _ _⟩
  case enter f args =>
   obtain ⟨e1, hc⟩ := h1
   rw [e1]
   exact hc.mono fun e w'' ⟨he, hw''⟩ => by subst he; exact hN _ _ ⟨rfl, hw''⟩
 | halt x w' => simp only [Oper.quietUpon] at h1
theorem FrG.add {n : Nat} {l : SF} {a : Act} (H : FrG D n l a) {d : Nat} {v : Value} (h : a.tmps[d]? = some v) : FrG D n ((d, [], v) :: l) a :=
 ⟨H.1, H.2.1, fun e he => by
  rcases List.mem_cons.1 he with rfl | he
  ·exact ⟨fun _ => h, fun x => absurd (okc_nil a) x⟩
  ·exact H.2.2 e he⟩
def dst (all : List Oper) (i : Nat) : Nat := ((all[i]?).bind (·.dst)).getD 0
def reach (all : List Oper) : Nat → Nat → Nat → Bool
 | 0, _, _ => false
 | m + 1, i, j => match all[i]? with
  | some o => o.after.toList.any fun e => Region.binds .any e && (Nat.beq e.on j || reach all m e.on j)
  | none => false
theorem reach_listed {all : List Oper} {listed : Array Bool} (hcl : ∀ (i : Nat) (o : Oper), listed[i]? = some true → all[i]? = some o → ∀ e ∈ o.after, Region.binds .any e = true → listed[e.on]? = some true) :
  ∀ (m i j : Nat) (o : Oper), all[i]? = some o → (∀ e ∈ o.after, Region.binds .any e = true → listed[e.on]? = some true) → reach all m i j = true → listed[j]? = some true
 | 0, _, _, _, _, _, h => by simp [reach] at h
 | m + 1, i, j, o, ho, ha, h => by
  unfold reach at h
  rw [ho] at h
  obtain ⟨e, he, h2⟩ := List.any_eq_true.1 h
  rw [Bool.and_eq_true, Bool.or_eq_true] at h2
  have he2 : e ∈ o.after := by simpa using he
  have hl := ha e he2 h2.1
  rcases h2.2 with h3 | h3
  ·rw [← Nat.eq_of_beq_eq_true h3]; exact hl
  ·cases hq : all[e.on]? with
   | none =>
    cases m with
    | zero => simp [reach] at h3
    | succ m => unfold reach at h3; rw [hq] at h3; simp at h3
   | some o2 => exact reach_listed hcl m e.on j o2 hq (hcl e.on o2 hl hq) h3
def okOrd (all : List Oper) : Bool :=
 (List.range all.length).all fun i => match all[i]? with
  | some o => o.after.toList.all fun e => !Region.binds .any e || Nat.blt e.on i
  | none => false
structure DInv (n : Nat) (base : SF) (all : List Oper) (deps : Nat → List Nat) (XA : List Nat) (Psi : Nat → (Nat → Value) → (Nat → List Nat) → World → Prop) (w0 : World) (listed : Array Bool) (a : Act) (w : World)
  (vs : Nat → Value) (fs : Nat → List Nat) : Prop where
 size : listed.size = all.length
 fr : FrG [] n base a
 below : Kp XA w0 w
 did : ∀ i, listed[i]? = some true → a.tmps[dst all i]? = some (vs i) ∧ Psi i vs fs w ∧ (∀ y ∈ fs i, w0.heap.size ≤ y ∧ y < w.heap.size)
 cl : ∀ (i : Nat) (o : Oper), listed[i]? = some true → all[i]? = some o → ∀ e ∈ o.after, Region.binds .any e = true → listed[e.on]? = some true
 dj : ∀ i j, listed[i]? = some true → listed[j]? = some true → i ≠ j → Dj (fs i) (fs j)
theorem Stp.of_run {P : Program} {o : Oper} {a : Act} {w w' : World} {v : Value} {K : Value → World → Prop} (hr : (execOp a.eval o).run P w = .ok (.value v) w') (hk : K v w') : Stp P o a w K := fun Q N hN => by
 unfold Oper.wp
 rw [hr]
 exact hN _ _ hk
section
variable {P : Program} {a : Act} {w : World} {n : Nat} {l : SF}
theorem o_evs {o : Oper} (os : List Value) (v : Value) (ob : Option Ob) (os' : List Value) (H : FrG D n l a) (_ : o.guard = none) (h : stepO P l [] o.op os = some ⟨v, os', ob⟩) (hob : ∀ q, ob = some q → q w) : Stp P o a w fun u w' => u = v ∧ Kp [] w w' := by
 obtain ⟨dst, op, ty, pos, after, guard⟩ := o
 have hk : cok l [] [] = true := rfl
 exact (Stp.of_yields (stepO_ok H (okc_nil a) hk h hob)).mono fun u w' h => ⟨h.1, Kp.of_below h.2 []⟩
theorem o_buildO {α : Type} {enc : α → List Value} {d : Nat} {t E : TypeId} {len z : Nat} {zv : Value} {parts : Array (Nat × Operand)} {ty : TypeId} {pos : String} {after : Array Edge} (hez : ∀ x, (enc x).length = z) (cs : List Value) (xs : List α)
  (vs : List Value) (H : FrG D n l a) (he : evs l [] (parts.toList.map (·.2)) = some vs)
  (hu : P.underlying t = some (.slice E)) (hz : (P.info? E).map (·.size) = some z) (hzv : (P.info? E).map (·.zero) = some (some zv)) (hlen : Nat.ble (len * z) 16777216 = true) (hpos : Nat.blt 0 (len * z) = true)
  (hf : Instr.fill (fun i => some (i * z, z)) ((Array.range (len * z)).map (zv.cells[· % zv.cells.size]!)) ((parts.toList.map (·.1)).zip vs) = some ⟨cs⟩) (hxs : (xs.map enc).flatten = cs) (hxl : xs.length = len) :
  Stp P ⟨some d, .buildSlice t len parts, ty, pos, after, none⟩ a w fun v w' => ∃ a1, v = .slice a1 len len ∧ Kp [] w w' ∧ abl a1 = [w.heap.size] ∧ Ow E enc z w' a1 len xs := by
 have hp : (parts.map fun p => (p.1, a.eval p.2)).toList = (parts.toList.map (·.1)).zip vs := by
  rw [← evs_map H (okc_nil a) he, ← map_zip2]
  cases parts
  simp
 have hr := run_buildSlice (P := P) (w := w) (parts := parts.map fun p => (p.1, a.eval p.2)) (cs := cs) hu hz hzv hlen hpos (by rw [hp]; exact hf)
 have hN := new_blk w cs E
 have hz0 : 0 < z := by
  rcases Nat.eq_zero_or_pos z with h | h
  ·subst h; simp at hpos
  ·exact h
 have hle : len * z ≤ 16777216 := by simpa using hlen
 have hln : xs.length ≤ 4611686018427387904 := by
  rw [hxl]
  have : len * 1 ≤ len * z := Nat.mul_le_mul_left _ hz0
  omega
 refine Stp.of_run (v := .slice (some ⟨w.heap.size, 0, none⟩) len len) (w' := w.alloc (.cells ⟨cs⟩ E)) ?_ ⟨_, rfl, hN.1, by simp [abl], ?_⟩
 ·simp only [execOp]
  rw [show (parts.map fun x => match x with | (i, x) => (i, a.eval x)) = parts.map fun p => (p.1, a.eval p.2) from rfl]
  simp [hr]
 ·have := Ow.of_blk (e := E) hez hln (w := w.alloc (.cells ⟨cs⟩ E)) (b := w.heap.size) (by rw [hxs]; show (w.heap.push _)[w.heap.size]? = _; simp)
  rw [hxl] at this
  exact this
theorem o_append {α : Type} {d : Nat} {s x : Operand} {t ty e : TypeId} {pos : String} {after : Array Edge} {enc : α → List Value} {z : Nat} {zv : Value} {a1 a2 : Option Addr} {n1 n2 c1 c2 : Nat} {l1 l2 : List α} (hez : ∀ x, (enc x).length = z) (h1c : ∀ x, oneCells (enc x) = true)
  (q : List α) (hq : l1 ++ l2 = q) (H : FrG D n l a) (hs : ev l [] s = some (.slice a1 n1 c1)) (hx : ev l [] x = some (.slice a2 n2 c2))
  (hn1 : l1.length = n1) (hn2 : l2.length = n2) (hu : P.underlying t = some (.slice e)) (hi : (P.info? e).map (fun i => (i.size, Nat.ble i.bytes 1024, i.zero)) = some (z, true, some zv)) (hzs : zv.cells.size = z) (hz : Nat.blt 0 z = true)
  (how : Ow e enc z w a1 c1 l1) (hsl : Sl enc z w a2 l2) (hl : V.ln l1 + V.ln l2 ≤ 137438953472) :
  Stp P ⟨some d, .call ⟨.builtin .append, #[s, x], #[t, t]⟩, ty, pos, after, none⟩ a w fun v w' => ∃ ar cr, v = .slice ar q.length cr ∧ Kp (abl a1) w w' ∧ (ar = a1 ∨ abl ar = [w.heap.size]) ∧ Ow e enc z w' ar cr q := by
 subst hn1 hq
 obtain ⟨bytes, hi2, hb⟩ : ∃ bytes, (P.info? e).map (fun i => (i.size, i.bytes, i.zero)) = some (z, bytes, some zv) ∧ Nat.ble bytes 1024 = true := by
  cases hinf : P.info? e with
  | none => simp [hinf] at hi
  | some inf =>
   simp [hinf] at hi
   exact ⟨inf.bytes, by simp [hi.1, hi.2.2], by simpa using hi.2.1⟩
 obtain ⟨ar, cr, w', hr, h1, h2, h3⟩ := run_append_ow (P := P) (ty := ty) (c2 := c2) hez h1c hu hi2 hzs hz how hsl hn2 hb (by unfold V.ln at hl; exact hl)
 refine Stp.of_run (v := .slice ar (l1 ++ l2).length cr) (w' := w') ?_ ⟨ar, cr, rfl, h1, h2, h3⟩
 simp only [execOp, resolve, Sem.run_bind, Sem.run_pure, Result.andThen_ok, invoke, builtin, List.map_toArray, List.map_cons, List.map_nil, H.ev (okc_nil a) hs, H.ev (okc_nil a) hx, hr]
theorem o_callx {d : Nat} {x : Operand} {args : Array Operand} {ats : Array TypeId} {ty : TypeId} {pos : String} {after : Array Edge} {f : FuncId} {first as caps : List Value} {R : Value → World → Prop} (H : FrG D n l a)
  (hx : callee l [] x = some (f, first, caps)) (ha : evs l [] args.toList = some as) (hc : DoesX P f ⟨first ++ as ++ caps⟩ w R) :
  Stp P ⟨some d, .call ⟨.value x, args, ats⟩, ty, pos, after, none⟩ a w R := fun Q N hN => by
 unfold callee at hx
 split at hx
 ·rename_i f' fi ca e3
  simp only [Option.some.injEq, Prod.mk.injEq] at hx
  obtain ⟨rfl, rfl, rfl⟩ := hx
  have hr : (execOp a.eval ⟨some d, .call ⟨.value x, args, ats⟩, ty, pos, after, none⟩).run P w = .ok (.enter f' ⟨fi ++ as ++ ca⟩) w := by
   simp only [execOp, resolve, Deferred.ofValue, H.ev (okc_nil a) e3, evs_arr H (okc_nil a) ha, Sem.run_bind, Sem.run_pure, Result.andThen_ok, invoke]
   have := hc.call w
   simpa using this
  unfold Oper.wp
  rw [hr]
  refine hc.run.mono ?_
  rintro e w' ⟨v, rfl, hR⟩
  exact hN _ _ hR
 ·cases hx
end
def Rp (P : Program) (fn : Func) (R : Ending → World → Prop) : Post := fun a w => a.defers = [] ∧ ∃ v, (results fn a.tmps).run P w = .ok v w ∧ R (.returned v) w
theorem calls_entryP {P : Program} {f : FuncId} {fn : Func} {c : Code} {args : List Value} {w : World} {R : Ending → World → Prop} {n : Nat}
  (hf : P.funcs[f]? = some fn) (hb : fn.body = some c) (hn : fn.ntmps = n) (hl : Nat.ble args.length n = true)
  (h : ∀ a, FrG [] n (argsSF args 0) a → c.wp P (Qs (Rp P fn R) [] (Rp P fn R)) a w) : Calls P f ⟨args⟩ w R := by
 have hl : args.length ≤ n := by simpa using hl
 refine calls_of_wp hf hb (wp_mono (h _ ?_) ?_)
 ·refine ⟨rfl, by simp [hn]; omega, ?_⟩
  intro e he
  obtain ⟨h1, h2, h3⟩ := argsSF_get he
  rw [h1]
  refine ⟨fun _ => ?_, fun x => absurd (fun p hp => by cases hp) x⟩
  simp only [Nat.sub_zero] at h3
  have hlt : e.1 < args.length := by
   rcases Nat.lt_or_ge e.1 args.length with h | h
   ·exact h
   ·rw [List.getElem?_eq_none h] at h3; cases h3
  rw [Array.getElem?_append_left (by simpa using hlt)]
  simpa using h3
 ·intro e a w q
  cases e with
  | normal => exact q
  | ret => exact q
  | exit i => exact q.elim
  | goto i => exact q.elim
  | panic i => exact q.elim
  | outgrown => exact q.elim
def oneRes (P : Program) (l : SF) (w : World) : ResultVar → Value → Prop
 | .tmp t, v => lke l t = some ([], v)
 | .cell t T, v => ∃ b cs, lke l t = some ([], .pointer (some ⟨b, 0, none⟩)) ∧ (loadVar T ⟨b, 0, none⟩).run P w = .ok v w ∧ Blk w b cs
theorem FrG.tmp2 {n : Nat} {l : SF} {a : Act} (H : FrG D n l a) {t : Nat} {v : Value} (h : lke l t = some ([], v)) : a.tmps[t]?.getD undef = v := by
 rw [← Array.getD_eq_getD_getElem?]
 exact H.tmp h
section
variable {P : Program} {fn : Func} {R : Ending → World → Prop} {n : Nat} {l : SF} {a : Act} {w : World}
theorem retR1 {r : ResultVar} {v : Value} (H : FrG [] n l a) (hr : fn.results = #[r]) (h : oneRes P l w r v) (hR : R (.returned v) w) : Rp P fn R a w := by
 refine ⟨H.1, v, ?_, hR⟩
 cases r with
 | tmp t => rw [results_tmp hr, H.tmp h]
 | cell t T =>
  obtain ⟨b, cs, e1, e2, _⟩ := h
  simp [results, hr, H.tmp2 e1, asAddr, e2]
theorem retR2 {r s : ResultVar} {v x : Value} (H : FrG [] n l a) (hr : fn.results = #[r, s]) (h : oneRes P l w r v) (h2 : oneRes P l w s x) (hR : R (.returned (.tuple #[v, x])) w) : Rp P fn R a w := by
 refine ⟨H.1, _, ?_, hR⟩
 cases r with
 | tmp t =>
  have e := H.tmp2 h
  cases s with
  | tmp u => simp [results, hr, e, H.tmp2 h2]
  | cell u T =>
   obtain ⟨b, cs, e1, e2, _⟩ := h2
   simp [results, hr, e, H.tmp2 e1, asAddr, e2]
 | cell t T =>
  obtain ⟨b, cs, e1, e2, _⟩ := h
  cases s with
  | tmp u => simp [results, hr, H.tmp2 e1, asAddr, e2, H.tmp2 h2]
  | cell u T2 =>
   obtain ⟨b2, cs2, k1, k2, _⟩ := h2
   simp [results, hr, H.tmp2 e1, asAddr, e2, H.tmp2 k1, k2]
theorem retR0 (H : FrG [] n l a) (hr : fn.results = #[]) (hR : R (.returned (.tuple #[])) w) : Rp P fn R a w := ⟨H.1, _, by rw [results_none hr], hR⟩
theorem retR3 {r s q : ResultVar} {v x y : Value} (H : FrG [] n l a) (hr : fn.results = #[r, s, q]) (h : oneRes P l w r v) (h2 : oneRes P l w s x) (h3 : oneRes P l w q y) (hR : R (.returned (.tuple #[v, x, y])) w) : Rp P fn R a w := by
 refine ⟨H.1, _, ?_, hR⟩
 cases r with
 | tmp t =>
  have e := H.tmp2 h
  cases s with
  | tmp u =>
   have e' := H.tmp2 h2
   cases q with
   | tmp z => simp [results, hr, e, e', H.tmp2 h3]
   | cell z T => obtain ⟨b, cs, e1, e2, _⟩ := h3; simp [results, hr, e, e', H.tmp2 e1, asAddr, e2]
  | cell u T =>
   obtain ⟨b2, cs2, k1, k2, _⟩ := h2
   cases q with
   | tmp z => simp [results, hr, e, H.tmp2 k1, k2, asAddr, H.tmp2 h3]
   | cell z T => obtain ⟨b, cs, e1, e2, _⟩ := h3; simp [results, hr, e, H.tmp2 k1, k2, H.tmp2 e1, asAddr, e2]
 | cell t T =>
  obtain ⟨b3, cs3, j1, j2, _⟩ := h
  cases s with
  | tmp u =>
   have e' := H.tmp2 h2
   cases q with
   | tmp z => simp [results, hr, H.tmp2 j1, j2, asAddr, e', H.tmp2 h3]
   | cell z T => obtain ⟨b, cs, e1, e2, _⟩ := h3; simp [results, hr, H.tmp2 j1, j2, e', H.tmp2 e1, asAddr, e2]
  | cell u T =>
   obtain ⟨b2, cs2, k1, k2, _⟩ := h2
   cases q with
   | tmp z => simp [results, hr, H.tmp2 j1, j2, H.tmp2 k1, k2, asAddr, H.tmp2 h3]
   | cell z T => obtain ⟨b, cs, e1, e2, _⟩ := h3; simp [results, hr, H.tmp2 j1, j2, H.tmp2 k1, k2, H.tmp2 e1, asAddr, e2]
theorem oneRes_agg {t b : Nat} {T : TypeId} {cs : List Value} {d : TypeDesc} (h : lke l t = some ([], .pointer (some ⟨b, 0, none⟩))) (hb : Blk w b cs) (hu : P.underlying T = some d)
  (hd : (match d with | .struct _ | .array _ _ => true | _ => false) = true) (hz : (P.info? T).map (·.size) = some cs.length) : oneRes P l w (.cell t T) (.agg ⟨cs⟩) := by
 refine ⟨b, cs, h, ?_, hb⟩
 have hv : V.atN b 0 cs 0 w := hb.atD (by simp)
 have hi : (isAgg T).run P w = .ok true w := by
  cases d <;> simp at hd <;> simp [isAgg, run_underlying hu]
 have hl := run_loadCells (P := P) (w := w) (b := b) (off := 0) cs 0 #[] (atN_cells (Below.refl _ _) hv)
 simp only [loadVar, Sem.run_bind, Result.andThen_ok, hi, if_true, size_of_info hz, loadCells, hl, Sem.run_pure]
 simp
end
end Go.V

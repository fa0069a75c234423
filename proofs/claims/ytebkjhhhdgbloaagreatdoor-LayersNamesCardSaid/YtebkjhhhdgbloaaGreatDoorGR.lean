/-
 A nil slice grown by zeros, and a slice's room. Nothing here is a statement of this claim.
-/
import Derived.Test.YtebkjhhhdgbloaaGreatDoorT
import Derived.Lib.AppendZeros
namespace Go.V
open Go Go.RowKit
variable {D : List Deferred}
section
variable {P : Program} {a : Act} {w : World} {n : Nat} {l : SF} {M : Av}
theorem o_cap {d : Nat} {s : Operand} {t e ty : TypeId} {pos : String} {after : Array Edge} {a1 : Option Addr} {n1 c1 : Nat} (H : FrG D n l a) (hS : S0 M [] w) (hs : ev l [] s = some (.slice a1 n1 c1)) (hu : P.underlying t = some (.slice e)) :
  Stp P ⟨some d, .call ⟨.builtin .cap, #[s], #[t]⟩, ty, pos, after, none⟩ a w fun v w' => v = .int .i64 (c1 : Int) ∧ SH M (fpl []) w [] w' := by
 refine Stp.of_run (v := .int .i64 (c1 : Int)) (w' := w) ?_ ⟨rfl, SH.step hS (Kp.refl _ _) (by simp) (by simp [fpl]) (by intro e he; cases he)⟩
 simp [execOp, resolve, invoke, builtin, Builtin.cap_, H.ev (okc_nil a) hs, run_underlying hu, goInt]
theorem o_appZ {α : Type} {T : Ty α} {d : Nat} {s x : Operand} {t tn ty e : TypeId} {pos : String} {after : Array Edge} {zv : Value} {k : Int} {kn : IntKind} (H : FrG D n l a) (hS : S0 M [] w)
  (hs : ev l [] s = some (.slice none 0 0)) (hx : ev l [] x = some (.int .i64 k)) (hu : P.underlying t = some (.slice e)) (hn : P.underlying tn = some (.int kn)) (hi : (P.info? e).map (fun i => (i.size, Nat.ble i.bytes 128, i.zero)) = some (T.z, true, some zv)) (hzs : zv.cells.size = T.z) (hz : Nat.blt 0 T.z = true)
  (hk : 0 < k ∧ k ≤ 137438953472) :
  Stp P ⟨some d, .call ⟨.builtin .append, #[s, x], #[t, tn]⟩, ty, pos, after, none⟩ a w fun v w' => ∃ g : Gh, v = .slice g.a k.toNat g.c ∧ SH M (fpl []) w [.own e T ([] : List α) g] w' := by
 have hz0 : 0 < T.z := by simpa [Nat.blt, Nat.lt_iff_add_one_le] using hz
 obtain ⟨j, rfl⟩ : ∃ j : Nat, k = j := ⟨k.toNat, by omega⟩
 have hj : 0 < j ∧ j ≤ 137438953472 := by omega
 cases hinf : P.info? e with
 | none => simp [hinf] at hi
 | some inf =>
  simp only [hinf, Option.map_some, Option.some.injEq, Prod.mk.injEq] at hi
  obtain ⟨h1, h2, h3⟩ := hi
  have h2 : inf.bytes ≤ 128 := by simpa using h2
  have hby : j * inf.bytes ≤ 140737488355328 := Nat.le_trans (Nat.mul_le_mul hj.2 h2) (by decide)
  have hr := Lib.run_append_nil_zeros (P := P) w t tn ty e inf zv .i64 kn hu hn hinf h3 j hj.1 (by omega) (by omega) (by omega)
  generalize hc : Builtin.zeroCells zv.cells j ++ Builtin.zeroCells zv.cells (grownCap w j 0 e - j) = cs at hr
  have hge := grownCap_ge w j 0 e
  have hsz : cs.size = grownCap w j 0 e * T.z := by
   rw [← hc, Array.size_append, size_zeroCells, size_zeroCells, hzs, ← Nat.add_mul]
   congr 1
   omega
  have hN := new_blk w.drew cs.toList e
  have hb : Below w.heap.size w w.drew := ⟨rfl, rfl, rfl, Nat.le_refl _, fun _ _ => rfl⟩
  have hk3 : Kp [] w (w.drew.alloc (.cells cs e)) := by
   refine ⟨(hN.1.os).trans hb.os, (hN.1.tape).trans hb.tape, (hN.1.output).trans hb.output, ?_, fun q hq _ => (hN.1.block q hq (by simp)).trans (hb.block q hq)⟩
   exact Nat.le_trans hb.size hN.1.size
  refine Stp.of_run (v := .slice (some ⟨w.heap.size, 0, none⟩) j (grownCap w j 0 e)) (w' := w.drew.alloc (.cells cs e)) ?_ ⟨.mk (some ⟨w.heap.size, 0, none⟩) (grownCap w j 0 e) (fun _ _ => .nil), rfl, SH.step hS hk3 (by simp) (by simp [fpl, Ent.own, Gh.a, abl]) ?_⟩
  ·simp [execOp, resolve, invoke, builtin, H.ev (okc_nil a) hs, H.ev (okc_nil a) hx, hr]
  ·intro f hf
   rw [List.mem_singleton] at hf
   subst hf
   refine ⟨⟨⟨by simp [zipG], .inr ⟨w.heap.size, grownCap w j 0 e, cs, rfl, Nat.zero_le _, ?_, Nat.zero_le _, grownCap_le_maxLen w j 0 e (by unfold maxLen; omega), hsz, by simp [zipG]⟩⟩, ?_, by simp [zipG]⟩, fun i hi => by simp at hi⟩
   ·show (w.heap.push _)[w.heap.size]? = _
    simp
   ·intro b hb
    simp only [Gh.a, abl, List.mem_singleton] at hb
    subst hb
    show w.heap.size < (w.heap.push _).size
    simp
theorem o_sl0 {d : Nat} {t E ty : TypeId} {x hi : Operand} {pos : String} {after : Array Edge} {n0 c0 z : Nat} {a0 : Option Addr} {k : IntKind} {L : List Ent} (H : FrG D n l a) (hS : S0 M L w)
  (hx : ev l [] x = some (.slice a0 n0 c0)) (hh : ev l [] hi = some (.int k 0)) (hu : P.underlying t = some (.slice E)) (hz : (P.info? E).map (·.size) = some z) :
  Stp P ⟨some d, .slice t x none (some hi) none, ty, pos, after, none⟩ a w fun v w' => v = .slice a0 0 c0 ∧ SH M (fpl L) w L w' := by
 have hsz : (sizeOf E).run P w = .ok z w := size_of_info hz
 have hb : (Instr.sliceBounds true n0 c0 none (some (.int k 0)) none).run P w = .ok (0, 0, c0) w := by
  simp [Instr.sliceBounds, Instr.sliceBound, asIntOf]
 have hm : (if c0 = 0 then a0 else a0.map (·.add 0)) = a0 := by
  cases a0 with
  | none => simp
  | some b => simp only [Option.map_some]; exact ite_self _
 refine Stp.of_run (v := .slice a0 0 c0) (w' := w) ?_ ⟨rfl, hS⟩
 simp [execOp, H.ev (okc_nil a) hx, H.ev (okc_nil a) hh, Instr.sliceAt, run_underlying hu, Instr.slice, hb, hsz, hm]
end
section
variable {P : Program} {ops : Array Oper} {Q : Exit → Act → World → Prop} {fuel i j : Nat} {o o2 : Oper} {listed : Array Bool} {a : Act} {w : World}
theorem any_op {K : Value → World → Prop} (ho : ops[i]? = some o) (hg : o.guard = none) (hs : Stp P o a w K) (hK : ∀ v w', K v w' → wpAny P .any ops Q fuel (listed.setIfInBounds i true) (a.put o.dst v) w') : wpOp P ops Q i (wpAny P .any ops Q fuel (listed.setIfInBounds i true)) a w := by
 unfold wpOp
 rw [ho]
 have hw : Region.wanted o (yielded ops a.tmps) = true := by simp [Region.wanted, hg]
 simp only [hw, if_true]
 exact .inl (hs _ _ hK)
theorem any1 {K : Value → World → Prop} (hr : Region.ready .any ops listed = [i]) (ho : ops[i]? = some o) (hg : o.guard = none) (hs : Stp P o a w K) (hK : ∀ v w', K v w' → wpAny P .any ops Q fuel (listed.setIfInBounds i true) (a.put o.dst v) w') : wpAny P .any ops Q (fuel + 1) listed a w := by
 refine ⟨fun h => (by rw [hr] at h; cases h), fun k hk => ?_⟩
 rw [hr, List.mem_singleton] at hk
 subst hk
 exact any_op ho hg hs hK
theorem any2 {K K2 : Value → World → Prop} (hr : Region.ready .any ops listed = [i, j]) (ho : ops[i]? = some o) (hg : o.guard = none) (ho2 : ops[j]? = some o2) (hg2 : o2.guard = none) (hs : Stp P o a w K) (hs2 : Stp P o2 a w K2)
  (hK : ∀ v w', K v w' → wpAny P .any ops Q fuel (listed.setIfInBounds i true) (a.put o.dst v) w') (hK2 : ∀ v w', K2 v w' → wpAny P .any ops Q fuel (listed.setIfInBounds j true) (a.put o2.dst v) w') : wpAny P .any ops Q (fuel + 1) listed a w := by
 refine ⟨fun h => (by rw [hr] at h; cases h), fun k hk => ?_⟩
 rw [hr] at hk
 rcases List.mem_cons.1 hk with rfl | hk
 ·exact any_op ho hg hs hK
 ·rw [List.mem_singleton] at hk
  subst hk
  exact any_op ho2 hg2 hs2 hK2
end
theorem t_coin3 {n : Nat} {M : Av} {X : List Nat} {w0 : World} {l : SF} {N R : Post} {ES : List (Nat × Post)} {P : Program} {id d e : Nat} {E y0 y1 y2 y3 : TypeId} {p0 p1 p2 p3 : String} {a0 a1 a2 a3 : Array Edge} {z : Code} {e1 e2 e3 : Ent} (ks : List Nat) (vs : List Value)
  (h : ∀ c : Bool, T D n M X w0 ((e, [], .bool c) :: fz ks vs) [e1, e2, e3] fun a w => z.wp P (Qs N ES R) a w)
  (hk : ∀ u v, keep (upd (upd l d [] u) e [] v) (e :: ks) = some ((e, [], v) :: fz ks vs) := by exact fun _ _ => rfl)
  (hd : Nat.blt d n = true := by rfl) (he : Nat.blt e n = true := by rfl) (hx : ∀ u, ev (upd l d [] u) [] (.tmp d) = some u := by exact fun _ => rfl) (ht : ∀ u c, ev (upd l d [] u) [] (.const (.bool c)) = some (.bool c) := by exact fun _ _ => rfl)
  (hz : (P.info? E).map (·.zero) = some (some (.bool false)) := by kernel_rfl) (hsz : (P.info? E).map (·.size) = some 1 := by kernel_rfl) (hm : P.follows .mixedOrders = true := by kernel_rfl)
  (hl : ∀ b c, stepO P (upd l d [] (.pointer (some ⟨b, 0, none⟩))) [] (.load E (.tmp d)) [.bool c] = some ⟨.bool c, [], some (V.at1 ⟨b, 0, none⟩ (.bool c))⟩ := by intros; kernel_rfl)
  (r0 : Region.ready .any #[⟨some d, .alloc E, y0, p0, a0, none⟩, ⟨none, .store E (.tmp d) (.const (.bool true)), y1, p1, a1, none⟩, ⟨none, .store E (.tmp d) (.const (.bool false)), y2, p2, a2, none⟩, ⟨some e, .load E (.tmp d), y3, p3, a3, none⟩] #[false, false, false, false] = [0] := by kernel_rfl)
  (r1 : Region.ready .any #[⟨some d, .alloc E, y0, p0, a0, none⟩, ⟨none, .store E (.tmp d) (.const (.bool true)), y1, p1, a1, none⟩, ⟨none, .store E (.tmp d) (.const (.bool false)), y2, p2, a2, none⟩, ⟨some e, .load E (.tmp d), y3, p3, a3, none⟩] #[true, false, false, false] = [1, 2] := by kernel_rfl)
  (r2 : Region.ready .any #[⟨some d, .alloc E, y0, p0, a0, none⟩, ⟨none, .store E (.tmp d) (.const (.bool true)), y1, p1, a1, none⟩, ⟨none, .store E (.tmp d) (.const (.bool false)), y2, p2, a2, none⟩, ⟨some e, .load E (.tmp d), y3, p3, a3, none⟩] #[true, true, false, false] = [2] := by kernel_rfl)
  (r3 : Region.ready .any #[⟨some d, .alloc E, y0, p0, a0, none⟩, ⟨none, .store E (.tmp d) (.const (.bool true)), y1, p1, a1, none⟩, ⟨none, .store E (.tmp d) (.const (.bool false)), y2, p2, a2, none⟩, ⟨some e, .load E (.tmp d), y3, p3, a3, none⟩] #[true, false, true, false] = [1] := by kernel_rfl)
  (r4 : Region.ready .any #[⟨some d, .alloc E, y0, p0, a0, none⟩, ⟨none, .store E (.tmp d) (.const (.bool true)), y1, p1, a1, none⟩, ⟨none, .store E (.tmp d) (.const (.bool false)), y2, p2, a2, none⟩, ⟨some e, .load E (.tmp d), y3, p3, a3, none⟩] #[true, true, true, false] = [3] := by kernel_rfl)
  (r5 : Region.ready .any #[⟨some d, .alloc E, y0, p0, a0, none⟩, ⟨none, .store E (.tmp d) (.const (.bool true)), y1, p1, a1, none⟩, ⟨none, .store E (.tmp d) (.const (.bool false)), y2, p2, a2, none⟩, ⟨some e, .load E (.tmp d), y3, p3, a3, none⟩] #[true, true, true, true] = [] := by kernel_rfl) :
  T D n M X w0 l [e1, e2, e3] fun a w => (Code.seq (.region id #[⟨some d, .alloc E, y0, p0, a0, none⟩, ⟨none, .store E (.tmp d) (.const (.bool true)), y1, p1, a1, none⟩, ⟨none, .store E (.tmp d) (.const (.bool false)), y2, p2, a2, none⟩, ⟨some e, .load E (.tmp d), y3, p3, a3, none⟩] true) z).wp P (Qs N ES R) a w := by
 intro a w H hS
 refine w_seq (wp_region_any hm ?_)
 replace hS := hS.below (⟨rfl, rfl, rfl, Nat.le_refl _, fun _ _ => rfl⟩ : Below w.heap.size w { w with drawn := w.drawn + 1 })
 generalize { w with drawn := w.drawn + 1 } = w2 at hS ⊢
 refine any1 (fuel := 3) r0 rfl rfl (o_alloc [.bool false] (z := .bool false) (hS.hand [] [0, 1, 2] rfl rfl) hz rfl) ?_
 rintro _ w3 ⟨b, rfl, hq⟩
 have hS1 := hS.join [] [0, 1, 2] rfl rfl hq
 have H1 := FrG.set (H := H) (v := .pointer (some ⟨b, 0, none⟩)) hd
 clear hq hS H
 have fin : ∀ (c : Bool) (a' : Act) (w4 : World), FrG D n (upd l d [] (.pointer (some ⟨b, 0, none⟩))) a' → SH M X w0 ([.blk b [.bool c]] ++ selL [e1, e2, e3] [0, 1, 2]) w4 → wpAny P .any #[⟨some d, .alloc E, y0, p0, a0, none⟩, ⟨none, .store E (.tmp d) (.const (.bool true)), y1, p1, a1, none⟩, ⟨none, .store E (.tmp d) (.const (.bool false)), y2, p2, a2, none⟩, ⟨some e, .load E (.tmp d), y3, p3, a3, none⟩] (Qs (fun a w => z.wp P (Qs N ES R) a w) ES R) 1 #[true, true, true, false] a' w4 := by
  intro c a' w4 H hS
  refine any1 (fuel := 0) r4 rfl rfl (o_evs [.bool c] (.bool c) (some (V.at1 ⟨b, 0, none⟩ (.bool c))) [] H rfl (hl b c) (fun q e => by cases e; exact (hS.bk 0 rfl).at1 rfl)) ?_
  rintro _ w5 ⟨rfl, hq⟩
  exact ⟨r5, h c _ _ ((FrG.set (H := H) he).keep (hk _ _)) ((hS.below hq.below).sel [1, 2, 3] rfl)⟩
 refine any2 (fuel := 2) (i := 1) (j := 2) r1 rfl rfl rfl rfl (o_store [.bool true] H1 (hS1.hand [0] [1, 2, 3] rfl rfl) (hx _) (ht _ _) hsz rfl rfl rfl) (o_store [.bool false] H1 (hS1.hand [0] [1, 2, 3] rfl rfl) (hx _) (ht _ _) hsz rfl rfl rfl) ?_ ?_
 ·rintro _ w4 hq
  have hS2 := hS1.join [0] [1, 2, 3] rfl rfl hq
  refine any1 (fuel := 1) r2 rfl rfl (o_store [.bool false] H1 (hS2.hand [0] [1, 2, 3] rfl rfl) (hx _) (ht _ _) hsz rfl rfl rfl) ?_
  rintro _ w5 hq2
  exact fin false _ _ H1 (hS2.join [0] [1, 2, 3] rfl rfl hq2)
 ·rintro _ w4 hq
  have hS2 := hS1.join [0] [1, 2, 3] rfl rfl hq
  refine any1 (fuel := 1) r3 rfl rfl (o_store [.bool true] H1 (hS2.hand [0] [1, 2, 3] rfl rfl) (hx _) (ht _ _) hsz rfl rfl rfl) ?_
  rintro _ w5 hq2
  exact fin true _ _ H1 (hS2.join [0] [1, 2, 3] rfl rfl hq2)
end Go.V

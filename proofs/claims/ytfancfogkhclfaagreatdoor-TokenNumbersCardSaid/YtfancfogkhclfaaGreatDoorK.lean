/-
  More steps: loops that are walked round by round, a block that ends in a row of integers, a slice that is made and known cell by cell, a call by an interface. Nothing here is a statement of this claim.
-/
import Derived.Test.YtfancfogkhclfaaGreatDoorD
namespace Go.V
open Go Go.RowKit
/-! ## A loop, round by round -/
section
variable {P : Program} {N R : Post} {ES : List (Nat × Post)} {a : Act} {w : World}
/-- At the head of a loop. -/
def LW (P : Program) (c : Code) (Q : Exit → Act → World → Prop) (a : Act) (w : World) : Prop :=
  ∀ b k cs, ∃ e a' w', Q e a' w' ∧ Arrives P (lone (b.at a (.code c :: .inLoop c :: k)) cs w) b k cs e a' w'
theorem w_loopU {c : Code} (h : LW P c (Qs N ES R) a w) : (Code.loop c).wp P (Qs N ES R) a w := fun b k cs =>
  let ⟨e, a', w', hq, harr⟩ := h b k cs
  ⟨e, a', w', hq, .of_steps (.one step_loop) harr⟩
theorem lw_round {c : Code} (h : c.wp P (Qs (fun a w => LW P c (Qs N ES R) a w) ES R) a w) : LW P c (Qs N ES R) a w := by
  intro b k cs
  obtain ⟨e, a₁, w₁, hq, harr⟩ := h b (.inLoop c :: k) cs
  cases e with
  | normal =>
    obtain ⟨e₂, a₂, w₂, hq₂, harr₂⟩ := hq b k cs
    exact ⟨e₂, a₂, w₂, hq₂, .of_steps (Steps.trans harr (.one step_inLoop)) harr₂⟩
  | exit id => exact ⟨.exit id, a₁, w₁, hq, .pass (x := .inLoop c) rfl (fun _ _ => .inl (by simp)) harr⟩
  | goto l => exact ⟨.goto l, a₁, w₁, hq, .pass (x := .inLoop c) rfl (fun _ _ => .inl (by simp)) harr⟩
  | ret => exact ⟨.ret, a₁, w₁, hq, .pass (x := .inLoop c) rfl (fun _ _ => .inl (by simp)) harr⟩
  | panic ch => exact ⟨.panic ch, a₁, w₁, hq, .pass (x := .inLoop c) rfl (fun _ _ => .inl (by simp)) harr⟩
  | outgrown => exact ⟨.outgrown, a₁, w₁, hq, .pass (x := .inLoop c) rfl (fun _ _ => .inl (by simp)) harr⟩
end
theorem w_then {P : Program} {N R : Post} {ES : List (Nat × Post)} {a : Act} {w : World} {c : Code} (M : Post) (h : c.wp P (Qs M ES R) a w) (h2 : ∀ a w, M a w → N a w) : c.wp P (Qs N ES R) a w :=
  wp_mono h fun e a w q => by cases e <;> first | exact h2 _ _ q | exact q
/-! ## A block that ends in a row of integers -/
def Ent.mix (k : IntKind) (b : Nat) (cs : List Value) (q : List Int) (n : Int) : Ent where
  fp := [b]
  p := fun _ w => Blk w b (cs ++ q.map (Value.int k)) ∧ V.ln q = n
  kp := fun h kp _ hX => ⟨h.1.kp kp (hX b (by simp)), h.2⟩
  anti := fun h _ => h
  fresh := fun h => h
  lt := fun h => h.1.ltl
def agi (q : List Int) (n : Nat) : List Int := (List.range n).map fun (i : Nat) => gi q (i : Int)
section
variable {M : Av} {X : List Nat} {w0 w : World} {L : List Ent} {k : IntKind} {b : Nat} {cs : List Value} {q : List Int} {n : Int}
theorem SH.mix (h : SH M X w0 L w) (i : Nat) (hk : L[i]? = some (.mix k b cs q n)) : Blk w b (cs ++ q.map (Value.int k)) ∧ V.ln q = n := h.at i hk
theorem SH.toMix (hn : V.ln q = n) (h : SH M X w0 (.blk b (cs ++ q.map (Value.int k)) :: L) w) : SH M X w0 (.mix k b cs q n :: L) w :=
  ⟨h.kp, by have := h.nd; rw [List.pairwise_cons] at this ⊢; exact this, h.lo, h.nm, h.mx, fun e he => by
    rcases List.mem_cons.1 he with rfl | he
    · exact ⟨h.bk 0 rfl, hn⟩
    · exact h.ps e (List.mem_cons_of_mem _ he)⟩
theorem SH.ofMix (h : SH M X w0 (.mix k b cs q n :: L) w) : SH M X w0 (.blk b (cs ++ q.map (Value.int k)) :: L) w :=
  ⟨h.kp, by have := h.nd; rw [List.pairwise_cons] at this ⊢; exact this, h.lo, h.nm, h.mx, fun e he => by
    rcases List.mem_cons.1 he with rfl | he
    · exact (h.mix 0 rfl).1
    · exact h.ps e (List.mem_cons_of_mem _ he)⟩
theorem Mix.ixn {off : Nat} {i : Int} (h : Blk w b (cs ++ q.map (Value.int k)) ∧ V.ln q = n) (ho : cs.length = off) (hi : 0 ≤ i ∧ i < n) : V.at1 ⟨b, off + i.toNat * 1, none⟩ (.int k (gi q i)) w := by
  refine h.1.at1 ?_
  have hl : i.toNat < q.length := by have := h.2; unfold V.ln at this; omega
  rw [List.getElem?_append_right (by omega), ho, show off + i.toNat * 1 - off = i.toNat from by omega, List.getElem?_map, List.getElem?_eq_getElem hl]
  simp [gi, List.getD_eq_getElem?_getD, List.getElem?_eq_getElem hl]
theorem Mix.atG {off m : Nat} (h : Blk w b (cs ++ q.map (Value.int k)) ∧ V.ln q = n) (ho : cs.length = off) (hm : (m : Int) = n) : V.atN b off (gis k q m) 0 w := by
  refine h.1.atN _ 0 fun i hi => ?_
  have hi : i < m := by simpa [gis] using hi
  have hl : i < q.length := by have := h.2; unfold V.ln at this; omega
  rw [List.getElem?_append_right (by omega), ho, show off + (0 + i) - off = i from by omega, List.getElem?_map, List.getElem?_eq_getElem hl]
  simp [gis, gi, List.getD_eq_getElem?_getD, List.getElem?_eq_getElem hl]
end
section
variable {P : Program} {a : Act} {w : World} {nn : Nat} {l : SF} {M : Av} {D : List Deferred}
theorem o_allocM {d : Option Tmp} {E : TypeId} {ty : TypeId} {pos : String} {after : Array Edge} (k : IntKind) (cs : List Value) (q : List Int) (n : Int) {z : Value} (hS : S0 M [] w) (hz : (P.info? E).map (·.zero) = some (some z)) (hc : z.cells.toList = cs ++ q.map (Value.int k)) (hn : V.ln q = n) :
    Stp P ⟨d, .alloc E, ty, pos, after, none⟩ a w fun u w' => ∃ b : Nat, u = .pointer (some ⟨b, 0, none⟩) ∧ SH M (fpl []) w [.mix k b cs q n] w' :=
  Stp.mono (o_alloc _ hS hz hc) fun _ _ ⟨b, e, h⟩ => ⟨b, e, h.toMix hn⟩
theorem o_mstore {t : TypeId} {x y : Operand} {ty : TypeId} {pos : String} {after : Array Edge} {k : IntKind} {b off : Nat} {v : Value} {cs : List Value} {q : List Int} {m : Int} (cs' : List Value) (H : FrG D nn l a) (hS : S0 M [.mix k b cs q m] w)
    (hx : ev l [] x = some (.pointer (some ⟨b, off, none⟩))) (hy : ev l [] y = some v)
    (hz : (P.info? t).map (·.size) = some v.cells.toList.length) (h1 : oneCells v.cells.toList = true) (hl : Nat.ble (off + v.cells.toList.length) cs.length = true) (hs : setL cs off v.cells.toList = cs') :
    Stp P ⟨none, .store t x y, ty, pos, after, none⟩ a w fun _ w' => SH M (fpl [.mix k b cs q m]) w [.mix k b cs' q m] w' := by
  have hl' : off + v.cells.toList.length ≤ cs.length := by simpa using hl
  refine Stp.mono (o_store (cs' ++ q.map (Value.int k)) H (show S0 M [.blk b (cs ++ q.map (Value.int k))] w from hS.ofMix) hx hy hz h1 (by rw [Nat.ble_eq, List.length_append]; omega) ?_) fun _ _ h => SH.toMix (hS.mix 0 rfl).2 h
  rw [setL_right _ _ _ _ hl', hs]
theorem o_mrstore {t : TypeId} {x y : Operand} {ty : TypeId} {pos : String} {after : Array Edge} {k : IntKind} {b off : Nat} {ix v m : Int} {cs : List Value} {q : List Int} (H : FrG D nn l a) (hS : S0 M [.mix k b cs q m] w)
    (hx : ev l [] x = some (.pointer (some ⟨b, off + ix.toNat * 1, none⟩))) (hy : ev l [] y = some (.int k v)) (hz : (P.info? t).map (·.size) = some 1) (ho : cs.length = off) (h0 : 0 ≤ ix ∧ ix < m) :
    Stp P ⟨none, .store t x y, ty, pos, after, none⟩ a w fun _ w' => SH M (fpl [.mix k b cs q m]) w [.mix k b cs (seti q ix v) m] w' := by
  have hq := (hS.mix 0 rfl).2
  have hl : ix.toNat < q.length := by unfold V.ln at hq; omega
  refine Stp.mono (o_store (cs ++ (seti q ix v).map (Value.int k)) H (show S0 M [.blk b (cs ++ q.map (Value.int k))] w from hS.ofMix) hx hy hz rfl (by rw [Nat.ble_eq]; simp [Value.cells]; omega) ?_) fun _ _ h => SH.toMix (by rw [← hq]; simp [V.ln, seti]) h
  rw [show off + ix.toNat * 1 = cs.length + ix.toNat from by omega, setL_left]
  congr 1
  simp [Value.cells, setL, seti, List.map_set]
/-- A slice that is made, cell by cell. -/
theorem o_mkblk {d : Nat} {t E : TypeId} {lo co : Operand} {zv : Value} {ty : TypeId} {pos : String} {after : Array Edge} {kl kc : IntKind} (m : Nat) (cs : List Value) (H : FrG D nn l a) (hS : S0 M [] w)
    (hl : ev l [] lo = some (.int kl m)) (hc : ev l [] co = some (.int kc m)) (hu : P.underlying t = some (.slice E)) (hi : (P.info? E).map (fun i => (Nat.ble i.bytes 128, i.zero)) = some (true, some zv))
    (hs : (P.info? E).map (·.size) = some 1) (hb : Nat.ble m 1048576 = true) (hcs : (madeCells zv.cells (m * 1)).toList = cs) :
    Stp P ⟨some d, .makeSlice t lo co, ty, pos, after, none⟩ a w fun v w' => ∃ b : Nat, v = .slice (some ⟨b, 0, none⟩) m m ∧ SH M (fpl []) w [.blk b cs] w' := by
  cases hinf : P.info? E with
  | none => simp [hinf] at hi
  | some inf =>
    simp only [hinf, Option.map_some, Option.some.injEq, Prod.mk.injEq] at hi hs
    obtain ⟨h2, h3⟩ := hi
    have h2 : inf.bytes ≤ 128 := by simpa using h2
    have hb : m ≤ 1048576 := by simpa using hb
    have hby : (inf.bytes : Int) * (m : Int) ≤ 281474976710656 := by
      have : (inf.bytes : Int) * m ≤ 128 * 1048576 := Int.mul_le_mul (by omega) (by omega) (by omega) (by omega)
      omega
    have hr := run_make (P := P) w t E inf zv hu hinf h3 kl kc (m : Int) (m : Int) (by omega) (Int.le_refl _) hby (by omega)
    rw [Int.toNat_natCast, hs] at hr
    have hN := new_blk w cs E
    have hNeq : w.alloc (.cells (madeCells zv.cells (m * 1)) E) = w.alloc (.cells ⟨cs⟩ E) := by rw [← hcs]
    rw [hNeq] at hr
    refine Stp.of_run (v := .slice (some ⟨w.heap.size, 0, none⟩) m m) (w' := w.alloc (.cells ⟨cs⟩ E)) ?_ ⟨w.heap.size, rfl, SH.step hS hN.1 (by simp) (by simp [fpl, Ent.blk]) ?_⟩
    · simp [execOp, H.ev (okc_nil a) hl, H.ev (okc_nil a) hc, hr]
    · intro e he
      rw [List.mem_singleton] at he
      subst he
      exact hN.2
/-- A call by an interface. -/
theorem o_invx {d : Nat} {x : Operand} {nm : String} {args : Array Operand} {ats : Array TypeId} {ty : TypeId} {pos : String} {after : Array Edge} {f : FuncId} {T : TypeId} {rv : Value} {as : List Value} {R : Value → World → Prop} (H : FrG D nn l a)
    (hx : ev l [] x = some (.iface T rv)) (ha : evs l [] args.toList = some as) (hm : ∀ w, (method (P.types.size + Made.depth) T rv nm).run P w = .ok (f, rv) w) (hc : DoesX P f ⟨rv :: as⟩ w R) :
    Stp P ⟨some d, .call ⟨.invoke x nm, args, ats⟩, ty, pos, after, none⟩ a w R := fun Q N hN => by
  have hr : (execOp a.eval ⟨some d, .call ⟨.invoke x nm, args, ats⟩, ty, pos, after, none⟩).run P w = .ok (.enter f ⟨rv :: as⟩) w := by
    have h1 : (#[Value.iface T rv] ++ (⟨as⟩ : Array Value))[0]? = some (Value.iface T rv) := by simp
    have h2 : (#[Value.iface T rv] ++ (⟨as⟩ : Array Value)).extract 1 (#[Value.iface T rv] ++ (⟨as⟩ : Array Value)).size = ⟨as⟩ := by
      apply Array.ext'
      simp
    have h3 : #[rv] ++ (⟨as⟩ : Array Value) = ⟨rv :: as⟩ := by apply Array.ext'; simp
    simp only [execOp, resolve, H.ev (okc_nil a) hx, evs_arr H (okc_nil a) ha, Sem.run_bind, Sem.run_pure, Result.andThen_ok, invoke]
    rw [h1, h2]
    simp only [callMethod, Sem.run_bind, run_program, Result.andThen_ok, hm w, h3]
    exact hc.call w
  unfold Oper.wp
  rw [hr]
  refine hc.run.mono ?_
  rintro e w' ⟨v, rfl, hR⟩
  exact hN _ _ hR
end
/-! ## What a Replacer has built -/
def gmap : List Int := 0 :: (List.replicate 9 4 ++ (1 :: 4 :: 2 :: 3 :: List.replicate 242 4))
theorem gmap_len : V.ln gmap = 256 := by kernel_rfl
theorem gmap13 : gi gmap 13 = 3 := by decide
theorem gmap12 : gi gmap 12 = 2 := by decide
theorem gmap10 : gi gmap 10 = 1 := by decide
theorem gmap0 : gi gmap 0 = 0 := by decide
theorem gmap_el {x : Int} (h0 : 0 ≤ x) (h1 : x < 256) (a : x ≠ 13) (b : x ≠ 12) (c : x ≠ 10) (d : x ≠ 0) : gi gmap x = 4 := by
  have h : ∀ n : Fin 256, n.val = 13 ∨ n.val = 12 ∨ n.val = 10 ∨ n.val = 0 ∨ gi gmap (n.val : Int) = 4 := by decide +kernel
  have := h ⟨x.toNat, by omega⟩
  dsimp only at this
  rw [show ((x.toNat : Nat) : Int) = x from by omega] at this
  omega
theorem bat_byte (s : List UInt8) (i : Int) : 0 ≤ bat s i ∧ bat s i < 256 := by
  unfold bat
  have := UInt8.toNat_lt (s.getD i.toNat 0)
  omega
structure TrB (w : World) (g tb n1 n2 n3 n4 : Nat) : Prop where
  bg : Blk w g (([.string ⟨⟨[]⟩⟩, .int .i64 0, .string ⟨⟨[]⟩⟩, .pointer none, .slice (some ⟨tb, 0, none⟩) 4 4, .int .i64 4] : List Value) ++ gmap.map (Value.int .u8))
  bt : Blk w tb [.pointer (some ⟨n4, 0, none⟩), .pointer none, .pointer (some ⟨n3, 0, none⟩), .pointer (some ⟨n1, 0, none⟩)]
  b1 : Blk w n1 [.string ⟨⟨[10]⟩⟩, .int .i64 6, .string ⟨⟨[10]⟩⟩, .pointer (some ⟨n2, 0, none⟩), .slice none 0 0]
  b2 : Blk w n2 [.string ⟨⟨[10]⟩⟩, .int .i64 8, .string ⟨⟨[]⟩⟩, .pointer none, .slice none 0 0]
  b3 : Blk w n3 [.string ⟨⟨[10]⟩⟩, .int .i64 4, .string ⟨⟨[]⟩⟩, .pointer none, .slice none 0 0]
  b4 : Blk w n4 [.string ⟨⟨[239, 191, 189]⟩⟩, .int .i64 2, .string ⟨⟨[]⟩⟩, .pointer none, .slice none 0 0]
def Ent.trie (g tb n1 n2 n3 n4 : Nat) : Ent where
  fp := []
  p := fun M w => TrB w g tb n1 n2 n3 n4 ∧ ∀ b ∈ [g, tb, n1, n2, n3, n4], ¬ M b
  kp := fun h k hM _ => by
    have hx : ∀ b ∈ [g, tb, n1, n2, n3, n4], b ∉ _ := fun b hb hx => h.2 b hb (hM b hx)
    exact ⟨⟨h.1.bg.kp k (hx _ (by simp)), h.1.bt.kp k (hx _ (by simp)), h.1.b1.kp k (hx _ (by simp)), h.1.b2.kp k (hx _ (by simp)), h.1.b3.kp k (hx _ (by simp)), h.1.b4.kp k (hx _ (by simp))⟩, h.2⟩
  anti := fun h hM => ⟨h.1, fun b hb hm => h.2 b hb (hM b hm)⟩
  fresh := fun h => ⟨h.1, fun b hb hm => by
    rcases hm with hm | hm
    · exact h.2 b hb hm
    · simp only [List.mem_cons, List.not_mem_nil, or_false] at hb
      rcases hb with rfl | rfl | rfl | rfl | rfl | rfl
      · have := h.1.bg.lt; omega
      · have := h.1.bt.lt; omega
      · have := h.1.b1.lt; omega
      · have := h.1.b2.lt; omega
      · have := h.1.b3.lt; omega
      · have := h.1.b4.lt; omega⟩
  lt := fun _ b hb => by cases hb
section
variable {M : Av} {X : List Nat} {w0 w : World} {L : List Ent} {g tb n1 n2 n3 n4 : Nat}
theorem SH.tr (h : SH M X w0 L w) (i : Nat) (hk : L[i]? = some (.trie g tb n1 n2 n3 n4)) : TrB w g tb n1 n2 n3 n4 := (h.at i hk).1
theorem s0tr {L : List Ent} (h : S0 F0 L w ∧ fpl L = []) (hs : TrB w g tb n1 n2 n3 n4) : S0 F0 (.trie g tb n1 n2 n3 n4 :: L) w ∧ fpl (.trie g tb n1 n2 n3 n4 :: L) = [] := by
  have he : fpl (.trie g tb n1 n2 n3 n4 :: L) = [] := by simp [fpl, Ent.trie, h.2]
  refine ⟨?_, he⟩
  have hs2 : SH F0 (fpl L) w (.trie g tb n1 n2 n3 n4 :: L) w := h.1.add rfl ⟨hs, fun b _ hm => by
    rcases hm with hm | hm
    · exact hm
    · rw [h.2] at hm; cases hm⟩
  rw [h.2] at hs2
  show SH F0 (fpl (.trie g tb n1 n2 n3 n4 :: L)) w _ w
  rw [he]
  exact hs2
end
/-! ## A variable that holds some integer -/
def Ent.gint (g : Nat) : Ent where
  fp := []
  p := fun M w => (∃ m : Int, w.cell? ⟨g, 0, Option.none⟩ = some (.int .i64 m)) ∧ g < w.heap.size ∧ ¬ M g
  kp := fun h k hM _ => by
    obtain ⟨⟨m, hm⟩, hl, hn⟩ := h
    exact ⟨⟨m, by rw [World.cell?_of_block (k.block g hl fun hx => hn (hM _ hx))]; exact hm⟩, Nat.lt_of_lt_of_le hl k.size, hn⟩
  anti := fun h hM => ⟨h.1, h.2.1, fun hm => h.2.2 (hM _ hm)⟩
  fresh := fun h => ⟨h.1, h.2.1, fun hm => by
    rcases hm with hm | hm
    · exact h.2.2 hm
    · have := h.2.1; omega⟩
  lt := fun _ b hb => by cases hb
section
variable {M : Av} {X : List Nat} {w0 w : World} {L : List Ent} {g : Nat}
theorem SH.gi (h : SH M X w0 L w) (i : Nat) (hk : L[i]? = some (.gint g)) : (∃ m : Int, w.cell? ⟨g, 0, none⟩ = some (.int .i64 m)) ∧ g < w.heap.size := ⟨(h.at i hk).1, (h.at i hk).2.1⟩
theorem s0gi {L : List Ent} (h : S0 F0 L w ∧ fpl L = []) (hs : (∃ m : Int, w.cell? ⟨g, 0, none⟩ = some (.int .i64 m)) ∧ g < w.heap.size) : S0 F0 (.gint g :: L) w ∧ fpl (.gint g :: L) = [] := by
  have he : fpl (.gint g :: L) = [] := by simp [fpl, Ent.gint, h.2]
  refine ⟨?_, he⟩
  have hs2 : SH F0 (fpl L) w (.gint g :: L) w := h.1.add rfl ⟨hs.1, hs.2, fun hm => by
    rcases hm with hm | hm
    · exact hm
    · rw [h.2] at hm; cases hm⟩
  rw [h.2] at hs2
  show SH F0 (fpl (.gint g :: L)) w _ w
  rw [he]
  exact hs2
end
end Go.V

/-
  strings.Builder: what lies in memory, and what its methods do to it (the numbers of this program filled in by a program). Nothing here is a statement of this claim.
-/
import Derived.Test.YtipafpkdkhnjmaaGreatDoorRows
import Derived.Test.YtipafpkdkhnjmaaGreatDoorD
import Derived.WalkKit
import Derived.Lib.Builder
import Derived.Lib.UnsafeStr
import Derived.Lib.MakeNoZero
import Derived.Laws.IdiomCopy
import Derived.Shelf.RegionOpenPlain
set_option linter.unusedVariables false
set_option maxRecDepth 20000
set_option maxHeartbeats 4000000
namespace Go.V
open Go Go.RowKit
theorem heap_lt {w : World} {b : Nat} {o : Obj} (h : w.heap[b]? = some o) : b < w.heap.size := by
  rcases Nat.lt_or_ge b w.heap.size with h' | h'
  · exact h'
  · rw [Array.getElem?_eq_none h'] at h; cases h
/-- A strings.Builder that holds 's': never written, or used. -/
def Ent.bld (T e : TypeId) (b : Nat) (s : Str) (g : Gh) : Ent where
  fp := b :: abl g.a
  p := fun M w => (w.heap[b]? = some (.cells ⟨[.pointer Option.none, .slice Option.none 0 0]⟩ T (0, 0)) ∧ s = [] ∧ g = .nil) ∨
    (Blk w b [.pointer (some ⟨b, 0, Option.none⟩), .slice g.a (ofB s).length g.c] ∧ OwG e (tI .u8) M w (ofB s) g ∧ b ∉ abl g.a)
  kp := fun h k hM hX => by
    rcases h with ⟨h1, h2, h3⟩ | ⟨h1, h2, h3⟩
    · exact .inl ⟨(k.block _ (heap_lt h1) (hX _ (by simp))).trans h1, h2, h3⟩
    · exact .inr ⟨h1.kp k (hX _ (by simp)), h2.kp k hM (fun y hy => hX y (by simp [hy])), h3⟩
  anti := fun h hM => by
    rcases h with h | ⟨h1, h2, h3⟩
    · exact .inl h
    · exact .inr ⟨h1, h2.anti hM, h3⟩
  fresh := fun h => by
    rcases h with h | ⟨h1, h2, h3⟩
    · exact .inl h
    · exact .inr ⟨h1, h2.fresh, h3⟩
  lt := fun h b hb => by
    rcases h with ⟨h1, h2, h3⟩ | ⟨h1, h2, h3⟩
    · subst h3
      simp [Gh.a, abl] at hb
      subst hb
      exact heap_lt h1
    · rcases List.mem_cons.1 hb with rfl | hb
      · exact h1.lt
      · exact h2.ow.lt b hb
section
variable {T e : TypeId} {b : Nat} {s : Str} {g : Gh} {M : Av} {X : List Nat} {w0 w : World} {L : List Ent}
theorem SH.useBld (h : SH M X w0 (.bld T e b s g :: L) w) (h1 : Blk w b [.pointer (some ⟨b, 0, none⟩), .slice g.a (ofB s).length g.c]) (h2 : OwG e (tI .u8) (AvL M (.bld T e b s g :: L)) w (ofB s) g) (h3 : b ∉ abl g.a) :
    SH M X w0 (.blk b [.pointer (some ⟨b, 0, none⟩), .slice g.a (ofB s).length g.c] :: .own e (tI .u8) (ofB s) g :: L) w :=
  ⟨h.kp, by
    have hn := h.nd
    rw [List.pairwise_cons] at hn
    refine List.pairwise_cons.2 ⟨fun f hf => ?_, List.pairwise_cons.2 ⟨fun f hf => ?_, hn.2⟩⟩
    · rcases List.mem_cons.1 hf with rfl | hf
      · intro y hy hy2
        have hy : y ∈ [b] := hy
        simp at hy
        subst hy
        exact h3 hy2
      · intro y hy hy2
        have hy : y ∈ [b] := hy
        simp at hy
        subst hy
        exact hn.1 f hf _ (by simp [Ent.bld]) hy2
    · intro y hy hy2
      exact hn.1 f hf y (List.mem_cons_of_mem _ hy) hy2, h.lo, h.nm, h.mx, fun f hf => by
    rcases List.mem_cons.1 hf with rfl | hf
    · exact h1
    · rcases List.mem_cons.1 hf with rfl | hf
      · exact h2
      · exact h.ps f (List.mem_cons_of_mem _ hf)⟩
theorem SH.toBld {l : List Int} (hl : l = ofB s) (h : SH M X w0 (.blk b [.pointer (some ⟨b, 0, none⟩), .slice g.a l.length g.c] :: .own e (tI .u8) l g :: L) w) : SH M X w0 (.bld T e b s g :: L) w := by
  subst hl
  have hn := h.nd
  rw [List.pairwise_cons, List.pairwise_cons] at hn
  have hb : b ∉ abl g.a := fun hb => hn.1 (.own e (tI .u8) (ofB s) g) (by simp) b (by simp [Ent.blk]) hb
  refine ⟨h.kp, List.pairwise_cons.2 ⟨fun f hf => ?_, hn.2.2⟩, h.lo, h.nm, h.mx, fun f hf => ?_⟩
  · intro y hy hy2
    rcases List.mem_cons.1 hy with rfl | hy
    · exact hn.1 f (List.mem_cons_of_mem _ hf) _ (by simp [Ent.blk]) hy2
    · exact hn.2.1 f hf y hy hy2
  · rcases List.mem_cons.1 hf with rfl | hf
    · exact .inr ⟨h.bk 0 rfl, h.ow 1 rfl, hb⟩
    · exact h.ps f (List.mem_cons_of_mem _ (List.mem_cons_of_mem _ hf))
end
theorem o_allocB {P : Program} {a : Act} {w : World} {M : Av} {d : Option Tmp} {E : TypeId} {ty : TypeId} {pos : String} {after : Array Edge} (e : TypeId) {z : Value} (hS : S0 M [] w) (hz : (P.info? E).map (·.zero) = some (some z)) (hc : z.cells.toList = [.pointer none, .slice none 0 0]) :
    Stp P ⟨d, .alloc E, ty, pos, after, none⟩ a w fun u w' => ∃ b : Nat, u = .pointer (some ⟨b, 0, none⟩) ∧ SH M (fpl []) w [.bld E e b [] .nil] w' := by
  have hv : z.cells = ⟨[.pointer none, .slice none 0 0]⟩ := by rw [← hc]
  have hN := new_blk w [.pointer none, .slice none 0 0] E
  have hzr : (zeroValue E).run P w = .ok z w := by
    cases hi : P.info? E with
    | none => simp [hi] at hz
    | some inf =>
      simp [hi] at hz
      simp [zeroValue, typeInfo, hi, hz]
  refine Stp.of_run (v := .pointer (some ⟨w.heap.size, 0, none⟩)) (w' := w.alloc (.cells ⟨[.pointer none, .slice none 0 0]⟩ E)) ?_ ⟨w.heap.size, rfl, SH.step hS hN.1 (by simp) (by simp [fpl, Ent.bld, Gh.a, abl]) ?_⟩
  · simp [execOp, Instr.alloc, hzr, newVar, newRow, hv]
  · intro f hf
    rw [List.mem_singleton] at hf
    subst hf
    exact .inl ⟨heap_alloc_new w _, rfl, rfl⟩
theorem ofB_app (a c : Str) : ofB (a ++ c) = ofB a ++ ofB c := by simp [ofB]
theorem ofB_toB1 {c : Int} (h : 0 ≤ c ∧ c < 256) : ofB (toB [c]) = [c] := by
  simp [ofB, toB]
  omega
end Go.V
namespace Go.Proofs.YtipafpkdkhnjmaaGreatDoor
open Go.V Go.RowKit
set_option maxHeartbeats 1000000 in
set_option maxRecDepth 100000 in
theorem cc_used (b : Nat) (w : World) (h0 : w.cell? ⟨b, 0, none⟩ = some (.pointer (some ⟨b, 0, none⟩))) :
    Calls Tryz.prog 33 #[.pointer (some ⟨b, 0, none⟩)] w fun e w' => e = .returned (.tuple #[]) ∧ w' = w := by
  obtain ⟨j, hj, _⟩ := Option.map_eq_some_iff.1 (show (Tryz.prog.info? 48).map (·.size) = some 2 from by kernel_rfl)
  go_enter Tryz.func33, Tryz.ntmps33
  go_wp2
  rw [Lib.run_neq_ptr_same w _ Tryz.underlying45 hj]
  go_wp2
  go_end0
  exact ⟨rfl, rfl⟩
set_option maxHeartbeats 1000000 in
set_option maxRecDepth 100000 in
theorem cc_fresh (b : Nat) (w : World) (h0 : w.cell? ⟨b, 0, none⟩ = some (.pointer none)) (hsh : w.shape? b = some (48, 2)) (hfz : w.frozen? ⟨b, 0, none⟩ = false) :
    Calls Tryz.prog 33 #[.pointer (some ⟨b, 0, none⟩)] w fun e w' => e = .returned (.tuple #[]) ∧ w' = w.setCell ⟨b, 0, none⟩ (.pointer (some ⟨b, 0, none⟩)) := by
  obtain ⟨j, hj, hjs⟩ := Option.map_eq_some_iff.1 (show (Tryz.prog.info? 48).map (·.size) = some 2 from by kernel_rfl)
  go_enter Tryz.func33, Tryz.ntmps33
  go_wp2
  rw [Lib.run_to_unsafe w ⟨b, 0, none⟩ Tryz.underlying45 Tryz.underlying92 hj (by rw [hjs]; decide) hsh (Nat.zero_lt_succ 1)]
  simp only [Result.andThen]
  rw [Oper.upon_value]
  go_wp2
  rw [run_callFunc_extern Tryz.func54 (by kernel_rfl) (by kernel_rfl) (by kernel_rfl) (e := Extern.AbiNoEscape.same) (by kernel_rfl)]
  rw [Lib.run_noEscape]
  simp only [Result.andThen]
  rw [Oper.upon_value]
  go_wp2
  rw [Lib.run_from_unsafe w ⟨b, 0, none⟩ Tryz.underlying92 Tryz.underlying45 hj hsh (by kernel_rfl)]
  simp only [Result.andThen]
  rw [Oper.upon_value]
  go_wp2
  go_end0
  exact ⟨rfl, rfl⟩
/-- 'copyCheck': from here on the builder is used. -/
theorem bld_cc {M : Av} {b : Nat} {s : Str} {g : Gh} {w : World} (hS : S0 M [Ent.bld 48 5 b s g] w) :
    DoesX Tryz.prog 33 ⟨[.pointer (some ⟨b, 0, none⟩)]⟩ w fun v w' => v = .tuple ⟨[]⟩ ∧ SH M (fpl [Ent.bld 48 5 b s g]) w [Ent.blk b [.pointer (some ⟨b, 0, none⟩), .slice g.a (ofB s).length g.c], Ent.own 5 (tI .u8) (ofB s) g] w' := by
  refine ⟨Tryz.call33 _, ?_⟩
  rcases hS.at 0 rfl with ⟨h1, h2, h3⟩ | ⟨h1, h2, h3⟩
  · subst h2 h3
    refine (cc_fresh b w (by simp [World.cell?, h1]) (by simp [World.shape?, h1]) (by simp [World.frozen?, h1])).mono ?_
    rintro e w' ⟨rfl, rfl⟩
    refine ⟨_, rfl, rfl, ?_⟩
    have hk : Kp [b] w (w.setCell ⟨b, 0, none⟩ (.pointer (some ⟨b, 0, none⟩))) := kp_setCell w ⟨b, 0, none⟩ _
    have hbk : Blk (w.setCell ⟨b, 0, none⟩ (.pointer (some ⟨b, 0, none⟩))) b [.pointer (some ⟨b, 0, none⟩), .slice none 0 0] :=
      ⟨Nat.lt_of_lt_of_le (heap_lt h1) hk.size, _, heap_setCell_get h1⟩
    refine SH.step hS (hk.wide (by simp [fpl, Ent.bld])) ?_ (by simp [fpl, Ent.bld, Ent.blk, Ent.own, Gh.a, abl]) ?_
    · refine List.pairwise_cons.2 ⟨fun f hf => ?_, by simp⟩
      rw [List.mem_singleton] at hf
      subst hf
      intro y _ hy2
      simp [Ent.own, Gh.a, abl] at hy2
    · intro f hf
      rcases List.mem_cons.1 hf with rfl | hf
      · exact hbk
      · rw [List.mem_singleton] at hf
        subst hf
        exact OwG.nil
  · refine (cc_used b w (by rw [h1.cell]; rfl)).mono ?_
    rintro e w' ⟨rfl, rfl⟩
    exact ⟨_, rfl, rfl, hS.useBld h1 h2 h3⟩
theorem bld_WB {M : Av} {b : Nat} {s : Str} {g : Gh} {w : World} (c : Int) (hc : 0 ≤ c ∧ c < 256) (hl : V.ln s + 1 ≤ 1099511627776) (hS : S0 M [Ent.bld 48 5 b s g] w) :
    DoesX Tryz.prog 51 ⟨[.pointer (some ⟨b, 0, none⟩), .int .u8 c]⟩ w fun v w' => ∃ g' : Gh, v = .nilIface ∧ SH M (fpl [Ent.bld 48 5 b s g]) w [Ent.bld 48 5 b (s ++ toB [c]) g'] w' := by
  refine ⟨Tryz.call51 _, ?_⟩
  have hS0 : SH M (fpl [Ent.bld 48 5 b s g]) w [Ent.bld 48 5 b s g] w := hS
  generalize hX : fpl [Ent.bld 48 5 b s g] = X at hS0 ⊢
  clear hS hX
  have hS := hS0
  clear hS0
  refine calls_entryP Tryz.func51 rfl Tryz.ntmps51 rfl fun _ H => ?_
  refine s_reg [] [0, 1] [(0, [], .pointer (some ⟨b, 0, none⟩)), (1, [], .int .u8 c)] [] H (by kernel_rfl) trivial fun _ wd1 H2 hb => ?_
  clear H
  replace hS := hS.below hb
  clear hb
  refine w_seq ?_
  refine wl_start ?_
  refine wl_batch 0 1 [] [0, 1, 5] [(0, [], .pointer (some ⟨b, 0, none⟩)), (1, [], .int .u8 c), (5, [], .pointer (some ⟨b, 0, none⟩))] [] H2 (by decide) (by kernel_rfl) trivial fun _ wd2 H3 hb => ?_
  clear H2
  replace hS := hS.below hb
  clear hb
  have hd := hS.hand [0] [] rfl rfl
  refine m_stp [6, 0, 1] [(0, [], .pointer (some ⟨b, 0, none⟩)), (1, [], .int .u8 c)] H3 rfl rfl rfl rfl (o_callx H3 rfl rfl (bld_cc hd)) (fun _ => rfl) fun _ wd3 v H4 hq => ?_
  clear H3 hd
  obtain ⟨rfl, hq⟩ := hq
  replace hS : SH M X w [Ent.blk b [.pointer (some ⟨b, 0, none⟩), .slice g.a (ofB s).length g.c], Ent.own 5 (tI .u8) (ofB s) g] _ := hS.join [0] [] rfl rfl hq
  clear hq
  refine wl_end rfl ?_
  refine w_seq ?_
  refine wl_start ?_
  refine wl_batch 0 6 [(.slice g.a (ofB s).length g.c)] [7, 11, 12] [(7, [], .pointer (some ⟨b, 0, none⟩)), (11, [], .slice g.a (ofB s).length g.c), (12, [], .int .u8 c)] [fun wz => V.at1 ⟨b, 1, none⟩ (.slice g.a (ofB s).length g.c) wz] H4 (by decide) (by kernel_rfl) ⟨((hS.bk 0 rfl).at1 rfl), trivial⟩ fun _ wd6 H7 hb => ?_
  clear H4
  replace hS := hS.below hb
  clear hb
  have hd := hS.hand [] [0, 1] rfl rfl
  refine m_stp [13, 7, 11] [(7, [], .pointer (some ⟨b, 0, none⟩)), (11, [], .slice g.a (ofB s).length g.c)] H7 rfl rfl rfl rfl (o_lit (T := (tI .u8)) (E := 5) (zv := .int .u8 0) [.int .u8 c] ([c] : List Int) [gL []] _ H7 hd rfl (by kernel_rfl) (by kernel_rfl) (by kernel_rfl) (by kernel_rfl) (by kernel_rfl) (by kernel_rfl) (by kernel_rfl) rfl (InnL.cons trivial InnL.nil)) (fun _ => rfl) fun _ wd10 v H11 hq => ?_
  clear H7 hd
  obtain ⟨g8, rfl, hq⟩ := hq
  replace hS : SH M X w [Ent.own 5 (tI .u8) ([c] : List Int) g8, Ent.blk b [.pointer (some ⟨b, 0, none⟩), .slice g.a (ofB s).length g.c], Ent.own 5 (tI .u8) (ofB s) g] _ := hS.join [] [0, 1] rfl rfl hq
  clear hq
  obtain ⟨q, hq13⟩ : ∃ q, q = ofB s ++ ([c] : List Int) := ⟨_, rfl⟩
  have hd := hS.hand [2, 0] [1] rfl rfl
  refine m_stp [14, 7] [(7, [], .pointer (some ⟨b, 0, none⟩))] H11 rfl rfl rfl rfl (o_app2 (T := (tI .u8)) (zv := .int .u8 0) (g1 := g) (g2 := g8) (l1 := ofB s) (l2 := ([c] : List Int)) q hq13.symm H11 hd rfl rfl rfl rfl rfl rfl rfl (by kernel_rfl) (by kernel_rfl) rfl rfl (by simpa [V.ln, ofB] using hl)) (fun _ => rfl) fun _ wd14 v H15 hq => ?_
  clear H11 hd
  obtain ⟨g16, rfl, hq⟩ := hq
  replace hS : SH M X w [Ent.own 5 (tI .u8) q g16, Ent.own 5 (tI .u8) ([c] : List Int) g8, Ent.blk b [.pointer (some ⟨b, 0, none⟩), .slice g.a (ofB s).length g.c]] _ := hS.join [2, 0] [1] rfl rfl hq
  clear hq
  refine wl_batch 8 10 [] [14, 16] [(14, [], .slice g16.a q.length g16.c), (16, [], .pointer (some ⟨b, 1, none⟩))] [] H15 (by decide) (by kernel_rfl) trivial fun _ wd17 H18 hb => ?_
  clear H15
  replace hS := hS.below hb
  clear hb
  have hd := hS.hand [2] [0, 1] rfl rfl
  refine m_stp0 [] [] H18 rfl rfl rfl (o_store [.pointer (some ⟨b, 0, none⟩), .slice g16.a q.length g16.c] H18 hd rfl rfl (by kernel_rfl) rfl rfl rfl) rfl fun _ wd19 H20 hq => ?_
  clear H18 hd
  obtain ⟨_, hq⟩ := hq
  replace hS : SH M X w [Ent.blk b [.pointer (some ⟨b, 0, none⟩), .slice g16.a q.length g16.c], Ent.own 5 (tI .u8) q g16, Ent.own 5 (tI .u8) ([c] : List Int) g8] _ := hS.join [2] [0, 1] rfl rfl hq
  clear hq
  refine wl_end rfl ?_
  replace hS : SH M X w [Ent.blk b [.pointer (some ⟨b, 0, none⟩), .slice g16.a q.length g16.c], Ent.own 5 (tI .u8) q g16] _ := hS.sel [0, 1] rfl
  refine s_reg [] [4] [(4, [], .nilIface)] [] H20 (by kernel_rfl) trivial fun _ wd21 H22 hb => ?_
  clear H20
  replace hS := hS.below hb
  clear hb
  refine w_ret ?_
  exact retR1 H22 rfl rfl ⟨_, rfl, g16, rfl, SH.toBld (by rw [hq13, ofB_app, ofB_toB1 hc]) hS⟩
theorem bld_WS {M : Av} {b : Nat} {s : Str} {g : Gh} {w : World} (t : Str) (hl : V.ln s + V.ln t ≤ 1099511627776) (hS : S0 M [Ent.bld 48 5 b s g] w) :
    DoesX Tryz.prog 15 ⟨[.pointer (some ⟨b, 0, none⟩), .string ⟨⟨t⟩⟩]⟩ w fun v w' => ∃ g' : Gh, v = .tuple ⟨[.int .i64 (V.ln t), .nilIface]⟩ ∧ SH M (fpl [Ent.bld 48 5 b s g]) w [Ent.bld 48 5 b (s ++ t) g'] w' := by
  refine ⟨Tryz.call15 _, ?_⟩
  have hS0 : SH M (fpl [Ent.bld 48 5 b s g]) w [Ent.bld 48 5 b s g] w := hS
  generalize hX : fpl [Ent.bld 48 5 b s g] = X at hS0 ⊢
  clear hS hX
  have hS := hS0
  clear hS0
  refine calls_entryP Tryz.func15 rfl Tryz.ntmps15 rfl fun _ H => ?_
  refine s_reg [] [0, 1] [(0, [], .pointer (some ⟨b, 0, none⟩)), (1, [], .string ⟨⟨t⟩⟩)] [] H (by kernel_rfl) trivial fun _ wd1 H2 hb => ?_
  clear H
  replace hS := hS.below hb
  clear hb
  refine w_seq ?_
  refine wl_start ?_
  refine wl_batch 0 1 [] [0, 1, 6] [(0, [], .pointer (some ⟨b, 0, none⟩)), (1, [], .string ⟨⟨t⟩⟩), (6, [], .pointer (some ⟨b, 0, none⟩))] [] H2 (by decide) (by kernel_rfl) trivial fun _ wd2 H3 hb => ?_
  clear H2
  replace hS := hS.below hb
  clear hb
  have hd := hS.hand [0] [] rfl rfl
  refine m_stp [7, 0, 1] [(0, [], .pointer (some ⟨b, 0, none⟩)), (1, [], .string ⟨⟨t⟩⟩)] H3 rfl rfl rfl rfl (o_callx H3 rfl rfl (bld_cc hd)) (fun _ => rfl) fun _ wd3 v H4 hq => ?_
  clear H3 hd
  obtain ⟨rfl, hq⟩ := hq
  replace hS : SH M X w [Ent.blk b [.pointer (some ⟨b, 0, none⟩), .slice g.a (ofB s).length g.c], Ent.own 5 (tI .u8) (ofB s) g] _ := hS.join [0] [] rfl rfl hq
  clear hq
  refine wl_end rfl ?_
  refine w_seq ?_
  refine wl_start ?_
  refine wl_batch 0 6 [(.slice g.a (ofB s).length g.c)] [1, 8, 12, 13] [(1, [], .string ⟨⟨t⟩⟩), (8, [], .pointer (some ⟨b, 0, none⟩)), (12, [], .slice g.a (ofB s).length g.c), (13, [], .string ⟨⟨t⟩⟩)] [fun wz => V.at1 ⟨b, 1, none⟩ (.slice g.a (ofB s).length g.c) wz] H4 (by decide) (by kernel_rfl) ⟨((hS.bk 0 rfl).at1 rfl), trivial⟩ fun _ wd6 H7 hb => ?_
  clear H4
  replace hS := hS.below hb
  clear hb
  obtain ⟨q, hq9⟩ : ∃ q, q = ofB s ++ ofB t := ⟨_, rfl⟩
  have hd := hS.hand [1] [0] rfl rfl
  refine m_stp [14, 1, 8] [(1, [], .string ⟨⟨t⟩⟩), (8, [], .pointer (some ⟨b, 0, none⟩))] H7 rfl rfl rfl rfl (o_appS (g1 := g) (l1 := ofB s) q hq9.symm H7 hd rfl rfl rfl rfl rfl (by kernel_rfl) (by kernel_rfl) (by kernel_rfl) (by simpa [V.ln, ofB] using hl)) (fun _ => rfl) fun _ wd10 v H11 hq => ?_
  clear H7 hd
  obtain ⟨g12, rfl, hq⟩ := hq
  replace hS : SH M X w [Ent.own 5 (tI .u8) q g12, Ent.blk b [.pointer (some ⟨b, 0, none⟩), .slice g.a (ofB s).length g.c]] _ := hS.join [1] [0] rfl rfl hq
  clear hq
  refine wl_batch 7 9 [] [1, 14, 16] [(1, [], .string ⟨⟨t⟩⟩), (14, [], .slice g12.a q.length g12.c), (16, [], .pointer (some ⟨b, 1, none⟩))] [] H11 (by decide) (by kernel_rfl) trivial fun _ wd13 H14 hb => ?_
  clear H11
  replace hS := hS.below hb
  clear hb
  have hd := hS.hand [1] [0] rfl rfl
  refine m_stp0 [1] [(1, [], .string ⟨⟨t⟩⟩)] H14 rfl rfl rfl (o_store [.pointer (some ⟨b, 0, none⟩), .slice g12.a q.length g12.c] H14 hd rfl rfl (by kernel_rfl) rfl rfl rfl) rfl fun _ wd15 H16 hq => ?_
  clear H14 hd
  obtain ⟨_, hq⟩ := hq
  replace hS : SH M X w [Ent.blk b [.pointer (some ⟨b, 0, none⟩), .slice g12.a q.length g12.c], Ent.own 5 (tI .u8) q g12] _ := hS.join [1] [0] rfl rfl hq
  clear hq
  refine wl_end rfl ?_
  refine s_reg [] [4, 5] [(4, [], .int .i64 (V.ln t)), (5, [], .nilIface)] [] H16 (by kernel_rfl) trivial fun _ wd17 H18 hb => ?_
  clear H16
  replace hS := hS.below hb
  clear hb
  refine w_ret ?_
  exact retR2 H18 rfl rfl rfl ⟨_, rfl, g12, rfl, SH.toBld (by rw [hq9, ofB_app]) hS⟩
/-! ## 'String' and 'Grow' -/
theorem SH.gone {M : Av} {L : List Ent} {w w' : World} (h : S0 M L w) (k : Kp (fpl L) w w') : SH M (fpl L) w [] w' := SH.step h k (by simp) (by simp [fpl]) (by simp)
theorem kp_freeze (w : World) (g n : Nat) : Kp [g] w (w.freeze ⟨g, 0, none⟩ n) := by
  unfold World.freeze
  split
  · exact Kp.refl _ _
  · exact ⟨rfl, rfl, rfl, by simp, fun k _ hx => by rw [Array.getElem?_modify, if_neg (fun e => hx (by simp; exact e.symm))]⟩
theorem kp_drew (w : World) (X : List Nat) : Kp X w w.drew := ⟨rfl, rfl, rfl, Nat.le_refl _, fun _ _ _ => rfl⟩
theorem kp_alloc (w : World) (o : Obj) (X : List Nat) : Kp X w (w.alloc o) := ⟨rfl, rfl, rfl, by simp, fun k hk _ => Lib.alloc_old w o k hk⟩
set_option maxHeartbeats 2000000 in
set_option maxRecDepth 100000 in
theorem st_row (b g cap : Nat) (l : List UInt8) (w : World) (cs : List Value) (T2 : TypeId) (h0 : l ≠ []) (hbk : w.heap[b]? = some (.cells ⟨[.pointer (some ⟨b, 0, none⟩), .slice (some ⟨g, 0, none⟩) l.length cap]⟩ T2 (0, 0)))
    (cur : Array Value) (hg : w.heap[g]? = some (.cells cur 5 (0, 0))) (hc : l.length ≤ cap) (hcm : cap ≤ maxLen) (hcs : cur.size = cap) (hx : ∀ j x, l[j]? = some x → w.cell? ((⟨g, 0, none⟩ : Addr).add j) = some (.int .u8 x.toNat)) :
    Calls Tryz.prog 16 #[.pointer (some ⟨b, 0, none⟩)] w fun e w' => e = .returned (.string ⟨l.toArray⟩) ∧ Kp [g] w w' := by
  have hl0 : l.length ≠ 0 := by simpa using h0
  have c1 : w.drew.cell? ⟨b, 1, none⟩ = some (.slice (some ⟨g, 0, none⟩) l.length cap) := by
    have : w.drew.heap[b]? = some (.cells ⟨[.pointer (some ⟨b, 0, none⟩), .slice (some ⟨g, 0, none⟩) l.length cap]⟩ T2 (0, 0)) := hbk
    rw [Lib.cell_of_heap this]; rfl
  have hSD : (Builtin.unsafeSliceData_ #[46] 75 #[.slice (some ⟨g, 0, none⟩) l.length cap]).run Tryz.prog w.drew = .ok (.pointer (some ⟨g, 0, none⟩)) w.drew :=
    Lib.run_unsafeSliceData_row _ _ _ _ _ _ (by omega)
  have hUS : (Builtin.unsafeString_ #[75, 3] 9 #[.pointer (some ⟨g, 0, none⟩), .int .i64 l.length]).run Tryz.prog w.drew = .ok (.string ⟨l.toArray⟩) (w.drew.freeze ⟨g, 0, none⟩ l.length) := by
    refine Lib.run_unsafeString_row w.drew 75 3 9 5 Tryz.underlying75 (by kernel_rfl) g cur.size (by have hg' : w.drew.heap[g]? = some (.cells cur 5 (0, 0)) := hg; simp [World.shape?, hg']) l h0 (by omega) (by unfold maxLen at hcm; omega) ?_
    intro j x hx2
    exact hx j x hx2
  have mixed : Tryz.prog.follows Departure.mixedOrders = true := by kernel_rfl
  go_enter Tryz.func16, Tryz.ntmps16
  go_wp2
  go_region_o
  all_goals (go_wp2; go_ret; exact ⟨rfl, (kp_drew w [g]).trans (kp_freeze w.drew g _) (by simp)⟩)
set_option maxHeartbeats 2000000 in
set_option maxRecDepth 100000 in
theorem st_nil (b : Nat) (p : Value) (w : World) (T2 : TypeId) (hbk : w.heap[b]? = some (.cells ⟨[p, .slice none 0 0]⟩ T2 (0, 0))) :
    Calls Tryz.prog 16 #[.pointer (some ⟨b, 0, none⟩)] w fun e w' => e = .returned (.string ⟨#[]⟩) ∧ Kp [] w w' := by
  have hUS : ∀ (W : World) (q : Option Addr), (Builtin.unsafeString_ #[75, 3] 9 #[.pointer q, .int .i64 0]).run Tryz.prog W = .ok (.string .empty) W := fun W q => Lib.run_unsafeString_none W _ _ _ q
  have c1 : w.drew.cell? ⟨b, 1, none⟩ = some (.slice none 0 0) := by
    have : w.drew.heap[b]? = some (.cells ⟨[p, .slice none 0 0]⟩ T2 (0, 0)) := hbk
    rw [Lib.cell_of_heap this]; rfl
  have hSD : (Builtin.unsafeSliceData_ #[46] 75 #[.slice none 0 0]).run Tryz.prog w.drew = .ok (.pointer none) w.drew := rfl
  have mixed : Tryz.prog.follows Departure.mixedOrders = true := by kernel_rfl
  go_enter Tryz.func16, Tryz.ntmps16
  go_wp2
  go_region_o
  all_goals (go_wp2; go_ret; exact ⟨rfl, kp_drew w _⟩)
set_option maxHeartbeats 2000000 in
set_option maxRecDepth 100000 in
theorem st_noroom (b g : Nat) (p : Value) (cur : Array Value) (w : World) (T2 : TypeId) (hbk : w.heap[b]? = some (.cells ⟨[p, .slice (some ⟨g, 0, none⟩) 0 0]⟩ T2 (0, 0))) (hg : w.heap[g]? = some (.cells cur 5 (0, 0))) :
    Calls Tryz.prog 16 #[.pointer (some ⟨b, 0, none⟩)] w fun e w' => e = .returned (.string ⟨#[]⟩) ∧ Kp [] w w' := by
  have hUS : ∀ (W : World) (q : Option Addr), (Builtin.unsafeString_ #[75, 3] 9 #[.pointer q, .int .i64 0]).run Tryz.prog W = .ok (.string .empty) W := fun W q => Lib.run_unsafeString_none W _ _ _ q
  have hlt : b < w.heap.size := heap_lt hbk
  have c1 : w.drew.cell? ⟨b, 1, none⟩ = some (.slice (some ⟨g, 0, none⟩) 0 0) := by
    have : w.drew.heap[b]? = some (.cells ⟨[p, .slice (some ⟨g, 0, none⟩) 0 0]⟩ T2 (0, 0)) := hbk
    rw [Lib.cell_of_heap this]; rfl
  have hSD : (Builtin.unsafeSliceData_ #[46] 75 #[.slice (some ⟨g, 0, none⟩) 0 0]).run Tryz.prog w.drew = .ok (.pointer (some ⟨w.drew.heap.size, 0, none⟩)) (w.drew.alloc (.view ⟨g, 0, none⟩ 5)) :=
    Lib.run_unsafeSliceData_zero w.drew _ _ 5 Tryz.underlying75 ⟨g, 0, none⟩ 0 (5, cur.size) (by have hg' : w.drew.heap[g]? = some (.cells cur 5 (0, 0)) := hg; simp [World.shape?, hg'])
  have c2 : (w.drew.alloc (.view ⟨g, 0, none⟩ 5)).cell? ⟨b, 1, none⟩ = some (.slice (some ⟨g, 0, none⟩) 0 0) := by
    have : (w.drew.alloc (.view ⟨g, 0, none⟩ 5)).heap[b]? = _ := (Lib.alloc_old w.drew _ b hlt).trans hbk
    rw [Lib.cell_of_heap this]; rfl
  have c3 : (w.alloc (.view ⟨g, 0, none⟩ 5)).drew.cell? ⟨b, 1, none⟩ = some (.slice (some ⟨g, 0, none⟩) 0 0) := c2
  have c0 : w.cell? ⟨b, 1, none⟩ = some (.slice (some ⟨g, 0, none⟩) 0 0) := c1
  have mixed : Tryz.prog.follows Departure.mixedOrders = true := by kernel_rfl
  go_enter Tryz.func16, Tryz.ntmps16
  go_wp2
  go_region_o
  all_goals (go_wp2; go_ret; exact ⟨rfl, by first | exact (kp_drew w []).trans (kp_alloc _ _ []) (by simp) | exact (kp_alloc w _ []).trans (kp_drew _ []) (by simp)⟩)
set_option maxHeartbeats 2000000 in
set_option maxRecDepth 100000 in
theorem st_room (b g cap : Nat) (p : Value) (w : World) (T2 : TypeId) (hc0 : cap ≠ 0) (hbk : w.heap[b]? = some (.cells ⟨[p, .slice (some ⟨g, 0, none⟩) 0 cap]⟩ T2 (0, 0))) :
    Calls Tryz.prog 16 #[.pointer (some ⟨b, 0, none⟩)] w fun e w' => e = .returned (.string ⟨#[]⟩) ∧ Kp [] w w' := by
  have hUS : ∀ (W : World) (q : Option Addr), (Builtin.unsafeString_ #[75, 3] 9 #[.pointer q, .int .i64 0]).run Tryz.prog W = .ok (.string .empty) W := fun W q => Lib.run_unsafeString_none W _ _ _ q
  have c1 : w.drew.cell? ⟨b, 1, none⟩ = some (.slice (some ⟨g, 0, none⟩) 0 cap) := by
    have : w.drew.heap[b]? = some (.cells ⟨[p, .slice (some ⟨g, 0, none⟩) 0 cap]⟩ T2 (0, 0)) := hbk
    rw [Lib.cell_of_heap this]; rfl
  have hSD : (Builtin.unsafeSliceData_ #[46] 75 #[.slice (some ⟨g, 0, none⟩) 0 cap]).run Tryz.prog w.drew = .ok (.pointer (some ⟨g, 0, none⟩)) w.drew :=
    Lib.run_unsafeSliceData_row _ _ _ _ _ _ hc0
  clear hc0
  have mixed : Tryz.prog.follows Departure.mixedOrders = true := by kernel_rfl
  go_enter Tryz.func16, Tryz.ntmps16
  go_wp2
  go_region_o
  all_goals (go_wp2; go_ret; exact ⟨rfl, kp_drew w _⟩)
/-- 'String': the builder is not used behind it. -/
theorem bld_St {M : Av} {b : Nat} {s : Str} {g : Gh} {w : World} (hS : S0 M [Ent.bld 48 5 b s g] w) :
    DoesX Tryz.prog 16 ⟨[.pointer (some ⟨b, 0, none⟩)]⟩ w fun v w' => v = .string ⟨⟨s⟩⟩ ∧ SH M (fpl [Ent.bld 48 5 b s g]) w [] w' := by
  refine ⟨Tryz.call16 _, ?_⟩
  rcases hS.at 0 rfl with ⟨h1, h2, h3⟩ | ⟨h1, h2, h3⟩
  · subst h2 h3
    refine (st_nil b _ w _ h1).mono ?_
    rintro e w' ⟨rfl, hk⟩
    exact ⟨_, rfl, rfl, SH.gone hS (hk.wide (by simp))⟩
  · have hrow := h2.ow.row
    rw [flat_tI, zipG_len] at hrow
    obtain ⟨T2, hT⟩ := h1.get
    rcases hrow.2 with ⟨hv, hn⟩ | ⟨gb, cap, cur, hv, _, hgw, hle, hcm, hcs, htake⟩
    · have hs : s = [] := by simpa [ofB] using hn
      subst hs
      rw [hv] at hT
      refine (st_nil b _ w _ hT).mono ?_
      rintro e w' ⟨rfl, hk⟩
      exact ⟨_, rfl, rfl, SH.gone hS (hk.wide (by simp))⟩
    · have hcl := hrow.cells (g := gb) (by rw [hv]; rfl)
      have hga : g.a = some ⟨gb, 0, none⟩ := by simp only [Value.slice.injEq] at hv; exact hv.1
      rw [hv] at hT
      by_cases hs : s = []
      · subst hs
        by_cases hc0 : cap = 0
        · subst hc0
          refine (st_noroom b gb _ cur w _ hT hgw).mono ?_
          rintro e w' ⟨rfl, hk⟩
          exact ⟨_, rfl, rfl, SH.gone hS (hk.wide (by simp))⟩
        · refine (st_room b gb cap _ w _ hc0 hT).mono ?_
          rintro e w' ⟨rfl, hk⟩
          exact ⟨_, rfl, rfl, SH.gone hS (hk.wide (by simp))⟩
      · have hln : (ofB s).length = s.length := by simp [ofB]
        rw [hln] at hT hle
        refine (st_row b gb cap s w [] T2 hs hT cur hgw hle hcm (by rw [show (tI .u8).z = 1 from rfl] at hcs; omega) (fun j x hx => ?_)).mono ?_
        · exact hcl j _ (by simp [ofB, hx])
        · rintro e w' ⟨rfl, hk⟩
          exact ⟨_, rfl, rfl, SH.gone hS (hk.wide (by intro y hy; simp at hy; subst hy; simp [fpl, Ent.bld, hga, abl]))⟩
set_option maxHeartbeats 2000000 in
set_option maxRecDepth 1000000 in
theorem gr_fresh (b n : Nat) (w : World) (T2 : TypeId) (hbk : w.heap[b]? = some (.cells ⟨[.pointer (some ⟨b, 0, none⟩), .slice none 0 0]⟩ T2 (0, 0))) (hn : n ≤ 281474976710656) :
    Calls Tryz.prog 68 #[.pointer (some ⟨b, 0, none⟩), .int .i64 n] w fun e w' => e = .returned (.tuple #[]) ∧ ∃ cs : Array Value, cs.size ≤ maxLen ∧ w' = ((w.alloc (.cells cs 5)).setCell ⟨b, 1, none⟩ (.slice (some ⟨w.heap.size, 0, none⟩) 0 cs.size)).drew.drew.drew := by
  obtain ⟨cs, hrun, hle, hmax⟩ := Lib.run_makeNoZero (P := Tryz.prog) w.drew #[3] 46 5 Tryz.underlying46 n hn
  have hw : IntKind.i64.wrap (IntKind.i64.wrap 0 + (n : Int)) = n := by
    rw [IntKind.wrap_i64, IntKind.wrap_i64]
    omega
  have hcall : (callFunc 86 #[.int .i64 (IntKind.i64.wrap (IntKind.i64.wrap 0 + (n : Int)))]).run Tryz.prog w.drew = .ok (.value (.slice (some ⟨w.drew.heap.size, 0, none⟩) n cs.size)) (w.drew.drew.drew.alloc (.cells cs 5)) := by
    rw [hw, run_callFunc_extern Tryz.func86 (by kernel_rfl) (by kernel_rfl) (by kernel_rfl) (e := Extern.BytealgMakeNoZero.makeNoZero #[3] #[46]) (by kernel_rfl), hrun]
    rfl
  have c1 : w.drew.cell? ⟨b, 1, none⟩ = some (.slice none 0 0) := by
    have : w.drew.heap[b]? = _ := hbk
    rw [Lib.cell_of_heap this]; rfl
  have c2 : (w.alloc (.cells cs 5)).cell? ⟨b, 1, none⟩ = some (.slice none 0 0) := by
    have : (w.alloc (.cells cs 5)).heap[b]? = _ := (Lib.alloc_old w _ b (heap_lt hbk)).trans hbk
    rw [Lib.cell_of_heap this]; rfl
  have f2 : (w.alloc (.cells cs 5)).frozen? ⟨b, 1, none⟩ = false := Lib.frozen_of_heap ((Lib.alloc_old w _ b (heap_lt hbk)).trans hbk) 1
  have hcopy : ∀ W : World, (Builtin.copy_ #[46, 46] 3 #[.slice (some ⟨w.heap.size, 0, none⟩) 0 cs.size, .slice none 0 0]).run Tryz.prog W = .ok (goInt 0) W :=
    fun W => run_copy_none W 46 46 3 5 _ _ 0 cs.size 0 0 Tryz.underlying46 (by kernel_rfl) rfl
  clear hw
  have mixed : Tryz.prog.follows Departure.mixedOrders = true := by kernel_rfl
  go_enter Tryz.func68, Tryz.ntmps68
  go_wp2
  have hfin := hmax (by unfold maxLen; omega)
  go_region_o
  all_goals (go_wp2; go_end0; exact ⟨rfl, cs, hfin, rfl⟩)
def GrP (b : Nat) (w w' : World) : Prop := Kp [b] w w' ∧ ∃ v T, w'.heap[b]? = some (.cells ⟨[.pointer (some ⟨b, 0, none⟩), v]⟩ T (0, 0)) ∧
  (v = .slice none 0 0 ∨ ∃ cs : Array Value, cs.size ≤ maxLen ∧ v = .slice (some ⟨w.heap.size, 0, none⟩) 0 cs.size ∧ w'.heap[w.heap.size]? = some (.cells cs 5 (0, 0)))
theorem GrP.drew {b : Nat} {w w' : World} (h : GrP b w w') : GrP b w w'.drew := ⟨⟨h.1.os, h.1.tape, h.1.output, h.1.size, h.1.block⟩, h.2⟩
theorem GrP.of {b : Nat} {w : World} {T2 : TypeId} (hbk : w.heap[b]? = some (.cells ⟨[.pointer (some ⟨b, 0, none⟩), .slice none 0 0]⟩ T2 (0, 0))) {cs : Array Value} (h : cs.size ≤ maxLen) {N : Nat} (hN : w.heap.size = N) :
    GrP b w ((w.alloc (.cells cs 5)).setCell ⟨b, 1, none⟩ (.slice (some ⟨N, 0, none⟩) 0 cs.size)) := by
  subst hN
  have hb := (Lib.alloc_old w (.cells cs 5) b (heap_lt hbk)).trans hbk
  have hk1 : Kp [b] w ((w.alloc (.cells cs 5)).setCell ⟨b, 1, none⟩ (.slice (some ⟨w.heap.size, 0, none⟩) 0 cs.size)) :=
    (kp_alloc w (.cells cs 5) [b]).trans (kp_setCell (w.alloc (.cells cs 5)) ⟨b, 1, none⟩ (.slice (some ⟨w.heap.size, 0, none⟩) 0 cs.size)) (by simp)
  refine ⟨hk1, _, T2, heap_setCell_get (off := 1) (v := .slice (some ⟨w.heap.size, 0, none⟩) 0 cs.size) hb, .inr ⟨cs, h, rfl, ?_⟩⟩
  have hk := (kp_setCell (w.alloc (.cells cs 5)) ⟨b, 1, none⟩ (.slice (some ⟨w.heap.size, 0, none⟩) 0 cs.size)).block w.heap.size (by simp) (by have := heap_lt hbk; simp; omega)
  exact hk.trans (heap_alloc_new w _)
set_option maxHeartbeats 2000000 in
set_option maxRecDepth 1000000 in
theorem gr_u (b n : Nat) (w : World) (T2 : TypeId) (hbk : w.heap[b]? = some (.cells ⟨[.pointer (some ⟨b, 0, none⟩), .slice none 0 0]⟩ T2 (0, 0))) (hn : n ≤ 281474976710656) :
    Calls Tryz.prog 53 #[.pointer (some ⟨b, 0, none⟩), .int .i64 n] w fun e w' => e = .returned (.tuple #[]) ∧ GrP b w w' := by
  have c0 : w.cell? ⟨b, 0, none⟩ = some (.pointer (some ⟨b, 0, none⟩)) := by rw [Lib.cell_of_heap hbk]; rfl
  have c1 : w.cell? ⟨b, 1, none⟩ = some (.slice none 0 0) := by rw [Lib.cell_of_heap hbk]; rfl
  have c1' : w.drew.cell? ⟨b, 1, none⟩ = some (.slice none 0 0) := c1
  have hbd : w.drew.heap[b]? = some (.cells ⟨[.pointer (some ⟨b, 0, none⟩), .slice none 0 0]⟩ T2 (0, 0)) := hbk
  have mixed : Tryz.prog.follows Departure.mixedOrders = true := by kernel_rfl
  go_enter Tryz.func53, Tryz.ntmps53
  go_wp2_with (go_at_call 33; refine (cc_used b w c0).mono ?_; rintro e w' ⟨rfl, rfl⟩)
  go_region_o
  all_goals go_wp2_with (go_at_call 68; refine (gr_fresh b n w'.drew T2 hbd hn).mono ?_; rintro e w1 ⟨rfl, cs, hcs, rfl⟩)
  all_goals first
    | (go_end0; exact ⟨rfl, (GrP.of hbk hcs rfl).drew.drew.drew.drew⟩)
    | (go_end0; exact ⟨rfl, ⟨kp_drew _ _, _, _, hbk, .inl rfl⟩⟩)
set_option maxHeartbeats 2000000 in
set_option maxRecDepth 1000000 in
theorem gr_f (b n : Nat) (w : World) (hbk : w.heap[b]? = some (.cells ⟨[.pointer none, .slice none 0 0]⟩ 48 (0, 0))) (hn : n ≤ 281474976710656) :
    Calls Tryz.prog 53 #[.pointer (some ⟨b, 0, none⟩), .int .i64 n] w fun e w' => e = .returned (.tuple #[]) ∧ GrP b w w' := by
  have hbk1 : (w.setCell ⟨b, 0, none⟩ (.pointer (some ⟨b, 0, none⟩))).heap[b]? = some (.cells ⟨[.pointer (some ⟨b, 0, none⟩), .slice none 0 0]⟩ 48 (0, 0)) := heap_setCell_get hbk
  have c1 : (w.setCell ⟨b, 0, none⟩ (.pointer (some ⟨b, 0, none⟩))).cell? ⟨b, 1, none⟩ = some (.slice none 0 0) := by rw [Lib.cell_of_heap hbk1]; rfl
  have c1' : (w.setCell ⟨b, 0, none⟩ (.pointer (some ⟨b, 0, none⟩))).drew.cell? ⟨b, 1, none⟩ = some (.slice none 0 0) := c1
  have hbd : (w.setCell ⟨b, 0, none⟩ (.pointer (some ⟨b, 0, none⟩))).drew.heap[b]? = some (.cells ⟨[.pointer (some ⟨b, 0, none⟩), .slice none 0 0]⟩ 48 (0, 0)) := hbk1
  have hk : Kp [b] w (w.setCell ⟨b, 0, none⟩ (.pointer (some ⟨b, 0, none⟩))) := kp_setCell w ⟨b, 0, none⟩ _
  have hsz : (w.setCell ⟨b, 0, none⟩ (.pointer (some ⟨b, 0, none⟩))).heap.size = w.heap.size := by simp [World.setCell]
  have fin : ∀ w', GrP b (w.setCell ⟨b, 0, none⟩ (.pointer (some ⟨b, 0, none⟩))) w' → GrP b w w' := by
    rintro w' ⟨h1, v, T, h2, h3⟩
    refine ⟨hk.trans h1 (by simp), v, T, h2, ?_⟩
    rw [hsz] at h3
    exact h3
  have mixed : Tryz.prog.follows Departure.mixedOrders = true := by kernel_rfl
  go_enter Tryz.func53, Tryz.ntmps53
  go_wp2_with (go_at_call 33; refine (cc_fresh b w (by rw [Lib.cell_of_heap hbk]; rfl) (by simp [World.shape?, hbk]) (Lib.frozen_of_heap hbk 0)).mono ?_; rintro e w' ⟨rfl, rfl⟩)
  go_region_o
  all_goals go_wp2_with (go_at_call 68; refine (gr_fresh b n (w.setCell ⟨b, 0, none⟩ (.pointer (some ⟨b, 0, none⟩))).drew 48 hbd hn).mono ?_; rintro e w1 ⟨rfl, cs, hcs, rfl⟩)
  all_goals first
    | (go_end0; exact ⟨rfl, fin _ (GrP.of hbk1 hcs hsz).drew.drew.drew.drew⟩)
    | (go_end0; exact ⟨rfl, fin _ ⟨kp_drew _ _, _, _, hbk1, .inl rfl⟩⟩)
/-- 'Grow' of a builder that holds nothing. -/
theorem bld_Gr {M : Av} {b : Nat} {w : World} (n : Int) (hn : 0 ≤ n ∧ n ≤ 281474976710656) (hS : S0 M [Ent.bld 48 5 b [] .nil] w) :
    DoesX Tryz.prog 53 ⟨[.pointer (some ⟨b, 0, none⟩), .int .i64 n]⟩ w fun v w' => ∃ g' : Gh, v = .tuple ⟨[]⟩ ∧ SH M (fpl [Ent.bld 48 5 b [] .nil]) w [Ent.bld 48 5 b [] g'] w' := by
  refine ⟨Tryz.call53 _, ?_⟩
  obtain ⟨m, rfl⟩ := Int.eq_ofNat_of_zero_le hn.1
  have hb0 : b < w.heap.size := (Ent.bld 48 5 b [] .nil).lt (hS.at 0 rfl) b (by simp [Ent.bld])
  have key : Calls Tryz.prog 53 #[.pointer (some ⟨b, 0, none⟩), .int .i64 m] w fun e w' => e = .returned (.tuple #[]) ∧ GrP b w w' := by
    rcases hS.at 0 rfl with ⟨h1, _, _⟩ | ⟨h1, _, _⟩
    · exact gr_f b m w h1 (by omega)
    · obtain ⟨T2, hT⟩ := h1.get
      exact gr_u b m w T2 hT (by omega)
  refine key.mono ?_
  rintro e w' ⟨rfl, hk, v, T2, hb, hv⟩
  have hkw : Kp (fpl [Ent.bld 48 5 b [] .nil]) w w' := hk.wide (by simp [fpl, Ent.bld])
  rcases hv with rfl | ⟨cs, hcs, rfl, hN⟩
  · refine ⟨_, rfl, .nil, rfl, SH.step hS hkw (by simp) (by simp [fpl, Ent.bld, Gh.a, abl]) ?_⟩
    intro f hf
    rw [List.mem_singleton] at hf
    subst hf
    exact .inr ⟨⟨heap_lt hb, T2, hb⟩, OwG.nil, by simp [Gh.a, abl]⟩
  · refine ⟨_, rfl, .mk (some ⟨w.heap.size, 0, none⟩) cs.size (fun _ _ => .nil), rfl, SH.step hS hkw (by simp) ?_ ?_⟩
    · intro y hy
      simp [fpl, Ent.bld, Gh.a, abl] at hy
      rcases hy with rfl | rfl
      · exact .inr (by simp [fpl, Ent.bld])
      · exact .inl (Nat.le_refl _)
    · intro f hf
      rw [List.mem_singleton] at hf
      subst hf
      refine .inr ⟨⟨heap_lt hb, T2, hb⟩, ⟨⟨⟨rfl, .inr ⟨w.heap.size, cs.size, cs, rfl, Nat.zero_le _, hN, Nat.zero_le _, hcs, by show cs.size = cs.size * 1; omega, by first | rfl | simp⟩⟩, ?_, Nat.zero_le _⟩, fun i hi => by simp [ofB] at hi⟩, ?_⟩
      · intro y hy
        simp [Gh.a, abl] at hy
        subst hy
        exact heap_lt hN
      · simp [Gh.a, abl]
        omega
end Go.Proofs.YtipafpkdkhnjmaaGreatDoor

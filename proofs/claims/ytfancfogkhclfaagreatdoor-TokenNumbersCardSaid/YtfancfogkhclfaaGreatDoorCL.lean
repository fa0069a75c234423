/-
  A strings.Replacer that cleans: sync.Once calls what builds it, and the call of it writes the cleaned text (the numbers of this program filled in by a program). Nothing here is a statement of this claim.
-/
import Derived.Test.YtfancfogkhclfaaGreatDoorCP
import Derived.Tactics
import Derived.Tactics2
import Derived.Defers
import Derived.Laws.Pointers
import Derived.Laws.LoneSync
import Derived.RegionTactic
import Derived.RegionCalls
import Derived.ChangeAlike
set_option linter.unusedVariables false
set_option maxRecDepth 20000
set_option maxHeartbeats 4000000
namespace Go.Proofs.YtfancfogkhclfaaGreatDoor
open Go.V Go.RowKit
theorem on_disable (w : World) : (callFunc 133 #[]).run Tryz.prog w = .ok (.value (.tuple #[])) w := run_call_mark0 Tryz.func133 (by kernel_rfl) (by kernel_rfl) (by kernel_rfl) .disable (by kernel_rfl) w
theorem on_enable (w : World) : (callFunc 135 #[]).run Tryz.prog w = .ok (.value (.tuple #[])) w := run_call_mark0 Tryz.func135 (by kernel_rfl) (by kernel_rfl) (by kernel_rfl) .enable (by kernel_rfl) w
theorem on_acquire (a : Addr) (w : World) : (callFunc 136 #[.pointer (some a)]).run Tryz.prog w = .ok (.value (.tuple #[])) w := run_call_marked Tryz.func136 (by kernel_rfl) (by kernel_rfl) (by kernel_rfl) .acquire (by kernel_rfl) a w
theorem on_release (a : Addr) (w : World) : (callFunc 138 #[.pointer (some a)]).run Tryz.prog w = .ok (.value (.tuple #[])) w := run_call_marked Tryz.func138 (by kernel_rfl) (by kernel_rfl) (by kernel_rfl) .releaseMerge (by kernel_rfl) a w
/-- '(*sync/atomic.Bool).Store(true)', as a deferred call. -/
theorem on_store (a : Addr) (x : Value) (u : FrameMode) (w : World) (hc : w.cell? a = some x) (hz : w.frozen? a = false) :
    CallsD Tryz.prog 104 #[.pointer (some a), .bool true] u w fun e u' w' => u' = u ∧ (e = .returned (.tuple #[]) ∧ w' = w.drew.setCell a (.int .u32 1)) := by
  have hc' : w.drew.cell? a = some x := by go_simp
  have hz' : w.drew.frozen? a = false := by go_simp
  have hst := run_call_store (P := Tryz.prog) Tryz.func127 (by kernel_rfl) (by kernel_rfl) (by kernel_rfl) (by kernel_rfl) (k := .u32) (y := 1) hc' hz'
  go_enter_d Tryz.func104, Tryz.ntmps104
  go_wp2
  go_region_calls
  all_goals (go_end0; exact ⟨rfl, rfl⟩)
/-- '(*sync.Mutex).Unlock', as a deferred call, the lock held and nobody waiting. -/
theorem on_unlock (a : Addr) (u : FrameMode) (w : World) (hc : w.cell? a = some (.int .i32 1)) (hz : w.frozen? a = false) :
    CallsD Tryz.prog 103 #[.pointer (some a)] u w fun e u' w' => u' = u ∧ (e = .returned (.tuple #[]) ∧ w' = w.setCell a (.int .i32 0)) := by
  have hd := on_disable
  have he := on_enable
  have hr := on_release
  have hadd := run_call_add (P := Tryz.prog) Tryz.func139 (by kernel_rfl) (by kernel_rfl) (by kernel_rfl) .i32 (by kernel_rfl) (y := -1) (s := 0) hc hz (by simp [go_sem]; rfl)
  have hcv := run_convert_to_unsafe (P := Tryz.prog) (src := 155) (dst := 159) Tryz.underlying155 Tryz.underlying159 (by kernel_rfl) hc
  go_enter_d Tryz.func103, Tryz.ntmps103
  go_wp2
  go_end0
  go_wp2
  go_end0
  exact ⟨rfl, rfl⟩
/-- '(*sync.Mutex).Lock', the lock free. -/
theorem on_lock (a : Addr) (w : World) (hc : w.cell? a = some (.int .i32 0)) (hz : w.frozen? a = false) :
    Calls Tryz.prog 102 #[.pointer (some a)] w fun e w' => e = .returned (.tuple #[]) ∧ w' = w.setCell a (.int .i32 1) := by
  have hd := on_disable
  have he := on_enable
  have ha := on_acquire
  have hcas := run_call_cas_hit (P := Tryz.prog) Tryz.func134 (by kernel_rfl) (by kernel_rfl) (by kernel_rfl) .i32 (by kernel_rfl) (y := 1) hc hz
  have hc' : (w.setCell a (.int .i32 1)).cell? a = some (.int .i32 1) := World.cell?_setCell_same w a _ hc
  have hcv := run_convert_to_unsafe (P := Tryz.prog) (src := 155) (dst := 159) Tryz.underlying155 Tryz.underlying159 (by kernel_rfl) hc'
  go_enter Tryz.func102, Tryz.ntmps102
  go_wp2
  first | go_end0 | (simp only [Exit.inBlock, Exit.then]; refine bodyPost_ret (results_none rfl _ _ _) rfl ?_) | refine bodyPost_ret (results_none rfl _ _ _) rfl ?_
  go_wp2
  go_end0
  exact ⟨rfl, rfl⟩
theorem blk_fz {w : World} {b off : Nat} {cs : List Value} (h : Blk w b cs) : w.frozen? ⟨b, off, none⟩ = false := by
  obtain ⟨_, T, hT⟩ := h
  simp [World.frozen?, hT]
theorem blk_set {w : World} {b off : Nat} {cs : List Value} (h : Blk w b cs) (v : Value) : Blk (w.setCell ⟨b, off, none⟩ v) b (cs.set off v) := by
  obtain ⟨hl, T, hT⟩ := h
  exact ⟨Nat.lt_of_lt_of_le hl (kp_setCell w ⟨b, off, none⟩ v).size, T, heap_setCell_get hT⟩
set_option maxRecDepth 100000 in
theorem on_slow (b : Nat) (c3 c4 : Value) (w : World) (K : World → Prop) (hw : Blk w b [.int .u32 0, .int .i32 0, .int .u32 0, c3, c4])
    (hB : ∀ w1, Blk w1 b [.int .u32 0, .int .i32 1, .int .u32 0, c3, c4] → Kp [b] w w1 → Calls Tryz.prog 44 #[.pointer (some ⟨b, 0, none⟩)] w1 fun e w2 => e = .returned (.tuple #[]) ∧ K w2)
    (hK : ∀ w2, K w2 → ∃ d3 d4, Blk w2 b [.int .u32 0, .int .i32 1, .int .u32 0, d3, d4]) :
    Calls Tryz.prog 75 #[.pointer (some ⟨b, 0, none⟩), .func (.func 44) #[.pointer (some ⟨b, 0, none⟩)] #[]] w fun e w' => e = .returned (.tuple #[]) ∧ ∃ w2, K w2 ∧ w' = (w2.drew.setCell ⟨b, 0, none⟩ (.int .u32 1)).setCell ⟨b, 1, none⟩ (.int .i32 0) := by
  have h1 : w.cell? ⟨b, 1, none⟩ = some (.int .i32 0) := by rw [hw.cell]; rfl
  have f1 := blk_fz (off := 1) hw
  have hb1 : Blk (w.setCell ⟨b, 1, none⟩ (.int .i32 1)) b [.int .u32 0, .int .i32 1, .int .u32 0, c3, c4] := blk_set hw _
  have hl := run_call_load (P := Tryz.prog) Tryz.func101 (by kernel_rfl) (by kernel_rfl) (by kernel_rfl) .u32 (by kernel_rfl) (w := w.setCell ⟨b, 1, none⟩ (.int .i32 1)) (a := ⟨b, 0, none⟩) (x := 0) (by rw [hb1.cell]; rfl)
  have hBB := hB _ hb1 (kp_setCell w ⟨b, 1, none⟩ _)
  have hnot : ∀ (x : Bool) (w : World), (Op.unary .not (.bool x)).run Tryz.prog w = .ok (.bool (!x)) w := fun _ _ => rfl
  go_enter_defers Tryz.func75, Tryz.ntmps75
  go_wp2_with (first | (go_at_call 102; refine (on_lock ⟨b, 1, none⟩ _ (by go_simp) (by go_simp)).mono ?_; rintro e w' ⟨rfl, rfl⟩) | (go_at_call 44; refine hBB.mono ?_; rintro e w2 ⟨rfl, hK2⟩) | go_in)
  obtain ⟨d3, d4, hb2⟩ := hK w2 hK2
  have hb3 : Blk w2.drew b [.int .u32 0, .int .i32 1, .int .u32 0, d3, d4] := hb2.kp (X := []) ⟨rfl, rfl, rfl, Nat.le_refl _, fun _ _ _ => rfl⟩ (by simp)
  have hb4 : Blk (w2.drew.setCell ⟨b, 0, none⟩ (.int .u32 1)) b [.int .u32 1, .int .i32 1, .int .u32 0, d3, d4] := blk_set hb3 _
  refine leaves_cons (f := 104) (args := #[.pointer (some ⟨b, 0, none⟩), .bool true]) (by simp) (by simp [go_sem]) ?_
  refine (on_store ⟨b, 0, none⟩ (.int .u32 0) .returning w2 (by rw [hb2.cell]; rfl) (blk_fz hb2)).mono ?_
  rintro e u' w'' ⟨rfl, rfl, rfl⟩
  refine leaves_cons (f := 103) (args := #[.pointer (some ⟨b, 1, none⟩)]) (by simp [settle]) (by simp [go_sem]) ?_
  refine (on_unlock ⟨b, 1, none⟩ _ _ (by rw [hb4.cell]; rfl) (blk_fz hb4)).mono ?_
  rintro e u' w'' ⟨rfl, rfl, rfl⟩
  simp [Leaves, settle, results, Tryz.results75]
  exact ⟨w2, hK2, rfl⟩
/-- '(*sync.Once).Do', the first time. -/
theorem on_do (b : Nat) (c3 c4 : Value) (w : World) (K : World → Prop) (hw : Blk w b [.int .u32 0, .int .i32 0, .int .u32 0, c3, c4])
    (hB : ∀ w1, Blk w1 b [.int .u32 0, .int .i32 1, .int .u32 0, c3, c4] → Kp [b] w w1 → Calls Tryz.prog 44 #[.pointer (some ⟨b, 0, none⟩)] w1 fun e w2 => e = .returned (.tuple #[]) ∧ K w2)
    (hK : ∀ w2, K w2 → ∃ d3 d4, Blk w2 b [.int .u32 0, .int .i32 1, .int .u32 0, d3, d4]) :
    Calls Tryz.prog 43 #[.pointer (some ⟨b, 0, none⟩), .func (.func 44) #[.pointer (some ⟨b, 0, none⟩)] #[]] w fun e w' => e = .returned (.tuple #[]) ∧ ∃ w2, K w2 ∧ w' = (w2.drew.setCell ⟨b, 0, none⟩ (.int .u32 1)).setCell ⟨b, 1, none⟩ (.int .i32 0) := by
  have hl := run_call_load (P := Tryz.prog) Tryz.func101 (by kernel_rfl) (by kernel_rfl) (by kernel_rfl) .u32 (by kernel_rfl) (w := w) (a := ⟨b, 0, none⟩) (x := 0) (by rw [hw.cell]; rfl)
  have hnot : ∀ (x : Bool) (w : World), (Op.unary .not (.bool x)).run Tryz.prog w = .ok (.bool (!x)) w := fun _ _ => rfl
  go_enter Tryz.func43, Tryz.ntmps43
  go_wp2_with (first | (go_at_call 75; refine (on_slow b c3 c4 w K hw hB hK).mono ?_; rintro e w' ⟨rfl, hq⟩) | (go_at_call 74; go_in))
  go_end0
  exact ⟨rfl, hq⟩
/-- What 'Do' leaves. -/
theorem on_doX {M : Av} {rb : Nat} {gl : Gh} {w : World} (hS : S0 M [Ent.blk rb [.int .u32 0, .int .i32 0, .int .u32 0, .nilIface, .slice gl.a 8 gl.c], Ent.own 9 tS lit8 gl] w) :
    DoesX Tryz.prog 43 ⟨[.pointer (some ⟨rb, 0, none⟩), .func (.func 44) ⟨[.pointer (some ⟨rb, 0, none⟩)]⟩ ⟨[]⟩]⟩ w (fun v w' => ∃ g tb n1 n2 n3 n4 : Nat, v = .tuple ⟨[]⟩ ∧ TrB w' g tb n1 n2 n3 n4 ∧
      SH M (fpl [Ent.blk rb [.int .u32 0, .int .i32 0, .int .u32 0, .nilIface, .slice gl.a 8 gl.c], Ent.own 9 tS lit8 gl]) w [Ent.blk rb [.int .u32 1, .int .i32 0, .int .u32 0, .iface 125 (.pointer (some ⟨g, 0, none⟩)), .slice none 0 0]] w') := by
  refine ⟨Tryz.call43 _, ?_⟩
  have hb := hS.bk 0 rfl
  refine (on_do rb _ _ w (fun w2 => ∃ g tb n1 n2 n3 n4 : Nat, TrB w2 g tb n1 n2 n3 n4 ∧ Blk w2 rb [.int .u32 0, .int .i32 1, .int .u32 0, .iface 125 (.pointer (some ⟨g, 0, none⟩)), .slice none 0 0] ∧ (∀ b ∈ [g, tb, n1, n2, n3, n4], b ∉ [rb]) ∧
    Kp (fpl [Ent.blk rb [.int .u32 0, .int .i32 0, .int .u32 0, .nilIface, .slice gl.a 8 gl.c], Ent.own 9 tS lit8 gl]) w w2) hb ?_ ?_).mono ?_
  · intro w1 hb1 hk1
    have hn := hS.nd
    have h1 : SH M (fpl [Ent.blk rb [.int .u32 0, .int .i32 0, .int .u32 0, .nilIface, .slice gl.a 8 gl.c], Ent.own 9 tS lit8 gl]) w [Ent.blk rb [.int .u32 0, .int .i32 1, .int .u32 0, .nilIface, .slice gl.a 8 gl.c], Ent.own 9 tS lit8 gl] w1 := by
      refine SH.step hS (hk1.wide (by simp [fpl, Ent.blk])) ?_ (fun b hb => .inr hb) ?_
      · rw [List.pairwise_cons] at hn ⊢
        exact ⟨fun f hf => by rcases List.mem_singleton.1 hf with rfl; exact hn.1 _ (by simp), by simp⟩
      · intro e he
        rcases List.mem_cons.1 he with rfl | he
        · exact hb1
        · rcases List.mem_singleton.1 he with rfl
          refine OwG.kp (X := [rb]) (hS.ow 1 rfl) hk1 (fun b hb => ?_) (fun b hb hx => ?_)
          · rcases List.mem_singleton.1 hb with rfl
            exact .inr (by simp [fpl, Ent.blk])
          · rw [List.pairwise_cons] at hn
            exact hn.1 (Ent.own 9 tS lit8 gl) (by simp) b (by simpa [Ent.blk] using hx) hb
    have hd := h1.hand [0, 1] [] rfl rfl
    refine (bo _ w1 hd).run.mono ?_
    rintro e w2 ⟨v, rfl, b5, b6, b7, b8, b9, b10, rfl, h2⟩
    have h3 := h1.join [0, 1] [] rfl rfl h2
    have hp := h2.nd
    refine ⟨rfl, b5, b6, b8, b7, b9, b10, ⟨(h2.mix 6 rfl).1, h2.bk 2 rfl, h2.bk 4 rfl, h2.bk 5 rfl, h2.bk 3 rfl, h2.bk 1 rfl⟩, h2.bk 0 rfl, ?_, h3.kp⟩
    rw [List.pairwise_cons] at hp
    have hx : ∀ b, (∃ e ∈ _, b ∈ Ent.fp e) → b ∉ [rb] := fun b ⟨e, he, hbe⟩ hr => hp.1 e he b (by simpa [Ent.blk] using hr) hbe
    intro b hb
    simp only [List.mem_cons, List.not_mem_nil, or_false] at hb
    rcases hb with rfl | rfl | rfl | rfl | rfl | rfl
    · exact hx _ ⟨_, List.mem_of_getElem? (i := 5) rfl, by simp [Ent.mix]⟩
    · exact hx _ ⟨_, List.mem_of_getElem? (i := 1) rfl, by simp [Ent.blk]⟩
    · exact hx _ ⟨_, List.mem_of_getElem? (i := 3) rfl, by simp [Ent.blk]⟩
    · exact hx _ ⟨_, List.mem_of_getElem? (i := 4) rfl, by simp [Ent.blk]⟩
    · exact hx _ ⟨_, List.mem_of_getElem? (i := 2) rfl, by simp [Ent.blk]⟩
    · exact hx _ ⟨_, List.mem_of_getElem? (i := 0) rfl, by simp [Ent.blk]⟩
  · rintro w2 ⟨g, tb, n1, n2, n3, n4, _, hb2, _⟩
    exact ⟨_, _, hb2⟩
  · rintro e w' ⟨rfl, w2, ⟨g, tb, n1, n2, n3, n4, ht, hb2, hne, hk⟩, rfl⟩
    have k1 : Kp [rb] w2 (w2.drew.setCell ⟨rb, 0, none⟩ (.int .u32 1)) := (show Kp [rb] w2 w2.drew from ⟨rfl, rfl, rfl, Nat.le_refl _, fun _ _ _ => rfl⟩).trans (kp_setCell w2.drew ⟨rb, 0, none⟩ _) (by simp)
    have k2 : Kp [rb] w2 ((w2.drew.setCell ⟨rb, 0, none⟩ (.int .u32 1)).setCell ⟨rb, 1, none⟩ (.int .i32 0)) := k1.trans (kp_setCell _ ⟨rb, 1, none⟩ _) (by simp)
    have hb3 : Blk w2.drew rb [.int .u32 0, .int .i32 1, .int .u32 0, .iface 125 (.pointer (some ⟨g, 0, none⟩)), .slice none 0 0] := hb2.kp (X := []) ⟨rfl, rfl, rfl, Nat.le_refl _, fun _ _ _ => rfl⟩ (by simp)
    have hx : ∀ b ∈ [g, tb, n1, n2, n3, n4], b ∉ [rb] := hne
    refine ⟨_, rfl, g, tb, n1, n2, n3, n4, rfl, ⟨ht.bg.kp k2 (hx _ (by simp)), ht.bt.kp k2 (hx _ (by simp)), ht.b1.kp k2 (hx _ (by simp)), ht.b2.kp k2 (hx _ (by simp)), ht.b3.kp k2 (hx _ (by simp)), ht.b4.kp k2 (hx _ (by simp))⟩, ?_⟩
    refine SH.step hS (hk.trans k2 (by simp [fpl, Ent.blk])) (by simp) (by simp [fpl, Ent.blk]) ?_
    intro e he
    rcases List.mem_singleton.1 he with rfl
    exact blk_set (blk_set hb3 _) _
/-- The call of the built Replacer. -/
theorem grep_X {w : World} {g tb n1 n2 n3 n4 m : Nat} {s r : Str} (hm : strings_genericReplacer_Replace m s = some r) (ht : TrB w g tb n1 n2 n3 n4) :
    DoesX Tryz.prog 175 ⟨[.pointer (some ⟨g, 0, none⟩), .string ⟨⟨s⟩⟩]⟩ w (fun v w' => v = .string ⟨⟨r⟩⟩ ∧ Kp [] w w') := by
  refine ⟨Tryz.call175 _, (strings_genericReplacer_Replace_w F0 m s r hm w (s0tr s0nil ht).1).mono ?_⟩
  rintro e w' ⟨v, rfl, rfl, hk⟩
  exact ⟨_, rfl, rfl, hk.kp⟩
theorem rep_X {M : Av} {rb m : Nat} {gl : Gh} {w : World} {s r : Str} (hm : strings_genericReplacer_Replace m s = some r) (hS : S0 M [Ent.blk rb [.int .u32 0, .int .i32 0, .int .u32 0, .nilIface, .slice gl.a 8 gl.c], Ent.own 9 tS lit8 gl] w) :
    DoesX Tryz.prog 30 ⟨[.pointer (some ⟨rb, 0, none⟩), .string ⟨⟨s⟩⟩]⟩ w (fun v w' => v = .string ⟨⟨r⟩⟩ ∧ SH M (fpl [Ent.blk rb [.int .u32 0, .int .i32 0, .int .u32 0, .nilIface, .slice gl.a 8 gl.c], Ent.own 9 tS lit8 gl]) w [] w') := by
  refine ⟨Tryz.call30 _, ?_⟩
  have hS0 : SH M (fpl [Ent.blk rb [.int .u32 0, .int .i32 0, .int .u32 0, .nilIface, .slice gl.a 8 gl.c], Ent.own 9 tS lit8 gl]) w [Ent.blk rb [.int .u32 0, .int .i32 0, .int .u32 0, .nilIface, .slice gl.a 8 gl.c], Ent.own 9 tS lit8 gl] w := hS
  generalize hX : fpl [Ent.blk rb [.int .u32 0, .int .i32 0, .int .u32 0, .nilIface, .slice gl.a 8 gl.c], Ent.own 9 tS lit8 gl] = X at hS0 ⊢
  clear hS hX
  have hS := hS0
  clear hS0
  refine calls_entryP Tryz.func30 rfl Tryz.ntmps30 rfl fun _ H => ?_
  refine s_reg [] [0, 1] [(0, [], .pointer (some ⟨rb, 0, none⟩)), (1, [], .string ⟨⟨s⟩⟩)] [] H (by kernel_rfl) trivial fun _ wd1 H2 hb => ?_
  clear H
  replace hS := hS.below hb
  clear hb
  refine w_seq ?_
  refine wl_start ?_
  refine wl_batch 0 5 [] [0, 1, 7, 9] [(0, [], .pointer (some ⟨rb, 0, none⟩)), (1, [], .string ⟨⟨s⟩⟩), (7, [], .pointer (some ⟨rb, 0, none⟩)), (9, [], .func (.func 44) ⟨[.pointer (some ⟨rb, 0, none⟩)]⟩ ⟨[]⟩)] [] H2 (by decide) (by kernel_rfl) trivial fun _ wd2 H3 hb => ?_
  clear H2
  replace hS := hS.below hb
  clear hb
  have hd := hS.hand [0, 1] [] rfl rfl
  refine m_stp [10, 0, 1] [(0, [], .pointer (some ⟨rb, 0, none⟩)), (1, [], .string ⟨⟨s⟩⟩)] H3 rfl rfl rfl rfl (o_callx H3 rfl rfl (on_doX hd)) (fun _ => rfl) fun _ wd3 v H4 hq => ?_
  clear H3 hd
  obtain ⟨g, tb, n1, n2, n3, n4, rfl, ht, hq⟩ := hq
  replace hS : SH M X w [Ent.blk rb [.int .u32 1, .int .i32 0, .int .u32 0, .iface 125 (.pointer (some ⟨g, 0, none⟩)), .slice none 0 0]] _ := hS.join [0, 1] [] rfl rfl hq
  clear hq
  refine wl_end rfl ?_
  refine w_seq ?_
  refine wl_start ?_
  refine wl_batch 0 5 [(.iface 125 (.pointer (some ⟨g, 0, none⟩)))] [14, 15] [(14, [], .iface 125 (.pointer (some ⟨g, 0, none⟩))), (15, [], .string ⟨⟨s⟩⟩)] [fun wz => V.at1 ⟨rb, 3, none⟩ (.iface 125 (.pointer (some ⟨g, 0, none⟩))) wz] H4 (by decide) (by kernel_rfl) ⟨((hS.bk 0 rfl).at1 rfl), trivial⟩ fun _ wd4 H5 hb => ?_
  clear H4
  have ht' : TrB wd4 g tb n1 n2 n3 n4 := ⟨ht.bg.below hb, ht.bt.below hb, ht.b1.below hb, ht.b2.below hb, ht.b3.below hb, ht.b4.below hb⟩
  clear ht
  replace hS := hS.below hb
  clear hb
  refine m_stp [16] [] H5 rfl rfl rfl rfl (o_invx H5 rfl rfl (fun w => by kernel_rfl) (grep_X hm ht')) (fun _ => rfl) fun _ wd5 v H6 hq => ?_
  clear H5
  obtain ⟨rfl, hq⟩ := hq
  replace hS := hS.below hq.below
  clear hq
  refine wl_batch 6 7 [] [4] [(4, [], .string ⟨⟨r⟩⟩)] [] H6 (by decide) (by kernel_rfl) trivial fun _ wd6 H7 hb => ?_
  clear H6
  replace hS := hS.below hb
  clear hb
  refine wl_end rfl ?_
  refine w_ret ?_
  exact retR1 H7 rfl rfl ⟨_, rfl, rfl, hS.sel [] rfl⟩
/-- 'Clean'. -/
def cleanF (s : Str) : Str × Int := if 4000 < ln s then ([], 28) else (cleanS false s, 0)
theorem cleanF_w (M : Av) (s : Str) (w : World) (hS : S0 M [] w) : Calls Tryz.prog 16 ⟨[.string ⟨⟨s⟩⟩]⟩ w (fun e w' => ∃ v, e = .returned v ∧ v = .tuple ⟨[.string ⟨⟨(cleanF s).1⟩⟩, .int .i64 (cleanF s).2]⟩ ∧ SH M (fpl []) w [] w') := by
  have hS0 : SH M (fpl []) w [] w := hS
  generalize hX : fpl [] = X at hS0 ⊢
  clear hS hX
  have hS := hS0
  clear hS0
  refine calls_entryP Tryz.func16 rfl Tryz.ntmps16 rfl fun _ H => ?_
  refine s_reg [] [0] [(0, [], .string ⟨⟨s⟩⟩)] [] H (by kernel_rfl) trivial fun _ wd1 H2 hb => ?_
  clear H
  replace hS := hS.below hb
  clear hb
  refine w_seq ?_
  refine s_reg [] [0, 6] [(0, [], .string ⟨⟨s⟩⟩), (6, [], .bool (decide (4000 < ln s)))] [] H2 (by kernel_rfl) trivial fun _ wd2 H3 hb => ?_
  clear H2
  replace hS := hS.below hb
  clear hb
  refine w_if H3 rfl (fun hc => ?_) (fun hc => ?_)
  · have e : cleanF s = ([], 28) := by rw [cleanF, if_pos (of_decide_eq_true hc)]
    refine s_reg [] [2, 3] [(2, [], .string ⟨⟨[]⟩⟩), (3, [], .int .i64 28)] [] H3 (by kernel_rfl) trivial fun _ wd3 H4 hb => ?_
    replace hS := hS.below hb
    refine w_ret ?_
    exact retR2 H4 rfl rfl rfl ⟨_, rfl, by rw [e], hS.sel [] rfl⟩
  · have hl : ¬ 4000 < ln s := of_decide_eq_false hc
    have e : cleanF s = (cleanS false s, 0) := by rw [cleanF, if_neg hl]
    have hm : strings_genericReplacer_Replace 5000 s = some (cleanS false s) := clean_eq s (by unfold ln at hl; omega) 5000 (by unfold ln at hl; omega)
    refine w_skip ?_
    refine w_seq ?_
    refine wl_start ?_
    have hd := hS.hand [] [] rfl rfl
    refine m_stp [7, 0] [(0, [], .string ⟨⟨s⟩⟩)] H3 rfl rfl rfl rfl (o_callx H3 rfl rfl (input_cleaner_ok (0, 0, 0, lit8) (by kernel_rfl) _ _ hd)) (fun _ => rfl) fun _ wd3 v H4 hq => ?_
    clear H3 hd
    obtain ⟨rb, gl, rfl, hq⟩ := hq
    replace hS : SH M X w [Ent.blk rb [.int .u32 0, .int .i32 0, .int .u32 0, .nilIface, .slice gl.a 8 gl.c], Ent.own 9 tS lit8 gl] _ := hS.join [] [] rfl rfl hq
    clear hq
    refine wl_batch 1 2 [] [7, 8] [(7, [], .pointer (some ⟨rb, 0, none⟩)), (8, [], .string ⟨⟨s⟩⟩)] [] H4 (by decide) (by kernel_rfl) trivial fun _ wd4 H5 hb => ?_
    clear H4
    replace hS := hS.below hb
    clear hb
    have hd := hS.hand [0, 1] [] rfl rfl
    refine m_stp [9] [] H5 rfl rfl rfl rfl (o_callx H5 rfl rfl (rep_X hm hd)) (fun _ => rfl) fun _ wd5 v H6 hq => ?_
    clear H5 hd
    obtain ⟨rfl, hq⟩ := hq
    replace hS : SH M X w [] _ := hS.join [0, 1] [] rfl rfl hq
    clear hq
    refine wl_batch 3 5 [] [2, 3] [(2, [], .string ⟨⟨cleanS false s⟩⟩), (3, [], .int .i64 0)] [] H6 (by decide) (by kernel_rfl) trivial fun _ wd6 H7 hb => ?_
    clear H6
    replace hS := hS.below hb
    clear hb
    refine wl_end rfl ?_
    refine w_ret ?_
    exact retR2 H7 rfl rfl rfl ⟨_, rfl, by rw [e], hS.sel [] rfl⟩
theorem cleanF_ok (s : Str) : Ret Tryz.prog 16 ⟨[.string ⟨⟨s⟩⟩]⟩ (.tuple ⟨[.string ⟨⟨(cleanF s).1⟩⟩, .int .i64 (cleanF s).2]⟩) := retP_of (Tryz.call16 _) (fun w h => cleanF_w F0 s w h)
end Go.Proofs.YtfancfogkhclfaaGreatDoor

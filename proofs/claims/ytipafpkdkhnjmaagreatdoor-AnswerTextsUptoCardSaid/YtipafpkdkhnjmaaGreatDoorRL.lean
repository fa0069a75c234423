/-
  A range over a function whose iterator turns a block of its own between the rounds. Nothing here is a statement of this claim.
-/
import Derived.Test.YtipafpkdkhnjmaaGreatDoorRF
import Derived.Lib.Bytealg
namespace Go.V
open Go Go.RowKit
/-- An iterator that turns a block of its own between the rounds: 'cs p' is what it holds when p elements have come. -/
def SeqJ (P : Program) (gf : FuncId) (lb : List Value) (encs : Nat → List Value) (cnt : Nat) (bx : Nat) (cs : Nat → List Value) (_w : World) : Prop :=
  ∀ (l : Nat) (J : Nat → Nat → World → Prop) (Jx : World → Prop) (W : World), (∀ k p A, J k p A → Blk A bx (cs p)) → (∀ k p A B, J k p A → Below A.heap.size A B → J k p B) → (∀ A B, Jx A → Below A.heap.size A B → Jx B) →
    (∀ k p q A B, J k p A → Kp [bx] A B → Blk B bx (cs q) → J k q B) →
    (∀ k A, k < cnt → J k (k + 1) A → YieldAt (FW none) 0 P l ⟨encs k⟩ A fun e B => (e = .returned (.bool true) ∧ J (k + 1) (k + 1) B) ∨ (e = .returned (.bool false) ∧ Jx B)) → J 0 0 W →
    CallsIn (FW none) 0 P gf ⟨.func (.yield l) #[] #[] :: lb⟩ W fun e B => (∃ v, e = .returned v) ∧ (J cnt cnt B ∨ Jx B)
/-- A block turns, all else stays. -/
theorem SH.move {M : Av} {X : List Nat} {w0 A B : World} {L : List Ent} {b : Nat} {cs cs' : List Value} (h : SH M X w0 (.blk b cs :: L) A) (hk : Kp [b] A B) (hb : Blk B b cs') : SH M X w0 (.blk b cs' :: L) B := by
  have hf : fpl (Ent.blk b cs' :: L) = fpl (Ent.blk b cs :: L) := rfl
  have hnd := h.nd
  rw [List.pairwise_cons] at hnd
  have hin : b ∈ fpl (Ent.blk b cs :: L) := by simp [fpl, Ent.blk]
  refine ⟨h.kp.trans hk (fun y hy => ?_), ?_, fun x hx => h.lo x (hf ▸ hx), fun x hx => h.nm x (hf ▸ hx), h.mx, fun e he => ?_⟩
  · simp only [List.mem_singleton] at hy
    subst hy
    exact (h.lo y hin).symm
  · rw [List.pairwise_cons]
    exact ⟨fun f hf2 y hy => hnd.1 f hf2 y hy, hnd.2⟩
  · rcases List.mem_cons.1 he with rfl | he2
    · exact hb
    · have h1 := h.ps e (List.mem_cons_of_mem _ he2)
      have hne := hnd.1 e he2
      have hav : AvL M (Ent.blk b cs :: L) = AvL M (Ent.blk b cs' :: L) := rfl
      rw [← hav]
      exact e.kp h1 hk (fun y hy => by simp only [List.mem_singleton] at hy; subst hy; exact .inr hin) (fun y hy hx => by simp only [List.mem_singleton] at hx; exact hne b (by simp [Ent.blk]) (hx ▸ hy))
theorem w_rangeJ {P : Program} {N' R : Post} {ES : List (Nat × Post)} {a : Act} {w : World} {n : Nat} {fr : SF} {g : Operand} {ps : Array Tmp} {assign body : Code} {M : Av} {X : List Nat} {w0 : World}
    {β γ δ : Type} (C : Nat → β → Prop) (LL : Nat → β → List Ent) (CR : γ → Prop) (LR : γ → List Ent) (fr0 : Nat → SF) (fr1 : Nat → β → δ → SF) (L1 : Nat → β → δ → List Ent)
    (gf : FuncId) (lb : List Value) (encs : Nat → List Value) (cnt : Nat) (bx : Nat) (cs : Nat → List Value)
    (H : Fr n fr a) (hg : ev fr [] g = some (.func (.func gf) ⟨[]⟩ ⟨lb⟩)) (eg : ∀ args w, (callFunc gf args).run P w = .ok (.enter gf args) w)
    (s0 : β) (h0 : C 0 s0) (hS : SH M X w0 (LL 0 s0) w) (hNL : ∀ p s, NcL (LL p s)) (hN1 : ∀ k s d, NcL (L1 k s d)) (hNR : ∀ y, NcL (LR y))
    (hseq : SeqJ P gf lb encs cnt bx cs w) (hps : ∀ k, (encs k).length = ps.size) (hbx : ∀ p s W, SH M X w0 (LL p s) W → Blk W bx (cs p)) (hmem : ∀ p s, bx ∈ fpl (LL p s)) (hmv : ∀ p q s A B, SH M X w0 (LL p s) A → Kp [bx] A B → Blk B bx (cs q) → SH M X w0 (LL q s) B)
    (hfr : ∀ k a', k < cnt → a'.defers = [] → a'.tmps = (ps.zip ⟨encs k⟩).foldl (fun t (p, v) => t.setIfInBounds p v) a.tmps → Fr n (fr0 k) a')
    (hass : ∀ (l k : Nat) s W a', k < cnt → C k s → Fr n (fr0 k) a' → S0 M (LL (k + 1) s) W → assign.wpIn (FW (some l)) 0 P (Qs (fun a1 W1 => ∃ d, Fr n (fr1 k s d) a1 ∧ SH M (fpl (LL (k + 1) s)) W (L1 k s d) W1) [] (fun _ _ => False)) a' W)
    (hbod : ∀ (l k : Nat) s d W a', k < cnt → C k s → Fr n (fr1 k s d) a' → S0 M (L1 k s d) W →
      body.wpIn (FW (some l)) 0 P (Qs (fun _ W1 => ∃ s', C (k + 1) s' ∧ SH M (fpl (L1 k s d)) W (LL (k + 1) s') W1) [] (fun _ W1 => ∃ y, CR y ∧ SH M (fpl (L1 k s d)) W (LR y) W1)) a' W)
    (hdone : ∀ s b a' w', w0.heap.size ≤ b → C cnt s → FrG [mk b] n fr a' → SH M X w0 (.obj b dEnd :: LL cnt s) w' → N' a' w')
    (hret : ∀ y b a' w', w0.heap.size ≤ b → CR y → FrG [mk b] n fr a' → SH M X w0 (.obj b dEnd :: LR y) w' → R a' w') :
    (Code.rangeFunc g ps assign body).wp P (Qs N' ES R) a w := by
  refine (wpIn_wide (n := 0)).1 ?_
  refine wpIn_rangeFunc (F := FW none) ?_
  intro fn hfn
  have hw0 := hS.kp.size
  obtain ⟨rec, hrec⟩ : ∃ rec : LoopState → Option Code → Loop, rec = fun st pe => { state := st, pending := pe, fn, tmps := a.tmps, params := ps, assign, body, defers := w.heap.size } := ⟨_, rfl⟩
  obtain ⟨W1, hW1⟩ : ∃ W1, (w.alloc (.deferred (some []))).alloc (.loop (rec .ready none)) = W1 := ⟨_, rfl⟩
  have hL1 : W1.heap[w.heap.size + 1]? = some (.loop (rec .ready none)) := by
    rw [← hW1]; have := World.alloc_heap_new (w.alloc (.deferred (some []))) (.loop (rec .ready none)); rwa [World.size_alloc] at this
  have hK1 : W1.heap[w.heap.size]? = some dEnd := by
    rw [← hW1]; exact (Below.heap_alloc _ _ _ (by simp)).trans (World.alloc_heap_new w _)
  have hb1 : Below w.heap.size w W1 := by
    rw [← hW1]; exact ((Below.refl _ w).alloc (Nat.le_refl _) _).alloc (by simp) _
  have hS1 : SH M X w0 (LL 0 s0) W1 := hS.below hb1
  have hlow : ∀ {L : List Ent} {W : World} {b : Nat}, NcL L → SH M X w0 L W → W.heap[b]? = some dEnd → w.heap.size ≤ b → SH M X w0 (.obj b dEnd :: L) W := by
    intro L W b hn hs hk hb
    refine hs.add rfl ⟨hk, fun hm => ?_⟩
    rcases hm with hm | hm
    · have := hs.mx b hm; omega
    · exact fpl_nc hn hs b hm ⟨_, hk, rfl⟩
  have hfrM : ∀ b, FrG [mk b] n fr { a with defers := [mk b] ++ a.defers } := fun b => ⟨by show [mk b] ++ a.defers = _; rw [H.1]; rfl, H.2.1, H.2.2⟩
  refine ⟨w.heap.size + 1, [mk w.heap.size], W1, { target := .fn (.func gf) ⟨lb⟩, args := #[.func (.yield (w.heap.size + 1)) #[] #[]] }, W1, gf,
    ⟨.func (.yield (w.heap.size + 1)) #[] #[] :: lb⟩, W1, ?_, ?_, fun _ _ => trivial, ?_, fun h => (by cases h), ?_⟩
  · rw [← hW1, hrec]; exact run_enterLoop_outer _ _ _ _ _
  · have hga : a.eval g = .func (.func gf) ⟨[]⟩ ⟨lb⟩ := H.ev (G := []) (fun _ h => by cases h) hg
    simp only [resolve, hga]
    simp [go_sem]
  · simp [invoke, go_sem, eg]
  · refine (hseq (w.heap.size + 1)
      (fun k p W => (∃ s, C k s ∧ SH M X w0 (LL p s) W) ∧ W.heap[w.heap.size + 1]? = some (.loop (rec .ready none)) ∧ W.heap[w.heap.size]? = some dEnd)
      (fun W => (∃ y, CR y ∧ SH M X w0 (LR y) W) ∧ W.heap[w.heap.size + 1]? = some (.loop (rec .done (some .ret))) ∧ W.heap[w.heap.size]? = some dEnd)
      W1 (fun k p A h => by obtain ⟨⟨s, _, hs⟩, _⟩ := h; exact hbx p s A hs) ?_ ?_ ?_ ?_ ⟨⟨s0, h0, hS1⟩, hL1, hK1⟩).mono ?_
    · rintro k p A B ⟨⟨s, hc, hs⟩, h2, h3⟩ hb
      exact ⟨⟨s, hc, hs.below hb⟩, (hb.block _ (Array.getElem?_eq_some_iff.1 h2).1).trans h2, (hb.block _ (Array.getElem?_eq_some_iff.1 h3).1).trans h3⟩
    · rintro A B ⟨⟨y, hc, hs⟩, h2, h3⟩ hb
      exact ⟨⟨y, hc, hs.below hb⟩, (hb.block _ (Array.getElem?_eq_some_iff.1 h2).1).trans h2, (hb.block _ (Array.getElem?_eq_some_iff.1 h3).1).trans h3⟩
    · rintro k p q A B ⟨⟨s, hc, hs⟩, h2, h3⟩ hkp hbl
      have hot : ∀ {i : Nat} {o : Obj}, A.heap[i]? = some o → o.isCells = false → B.heap[i]? = some o := fun {i} {o} hi ho =>
        (hkp.block _ (Array.getElem?_eq_some_iff.1 hi).1 (fun hx => by
          simp only [List.mem_singleton] at hx
          subst hx
          exact fpl_nc (hNL p s) hs _ (hmem p s) ⟨_, hi, ho⟩)).trans hi
      exact ⟨⟨s, hc, hmv p q s A B hs hkp hbl⟩, hot h2 rfl, hot h3 rfl⟩
    · -- one round
      rintro k W hk ⟨⟨s, hc, hs⟩, hl, hd⟩
      have hy := run_yield (P := P) (args := ⟨encs k⟩) hl (by rw [hrec]; exact hps k)
      rw [hrec] at hy
      have hne : w.heap.size ≠ w.heap.size + 1 := by omega
      refine ⟨fn, _, assign, body, hy, roundIn_of_wpIn hfn (wpIn_mono (hass _ k s W _ hk hc (hfr k _ hk rfl rfl) hs.s0) ?_)⟩
      rintro e a1 V1 hq
      cases e with
      | normal =>
        obtain ⟨d, H1, hs1⟩ := hq
        have hkeep : ∀ {b : Nat} {o : Obj}, W.heap[b]? = some o → o.isCells = false → V1.heap[b]? = some o := fun hb ho =>
          (hs1.kp.block _ (Array.getElem?_eq_some_iff.1 hb).1 (fun hx => fpl_nc (hNL (k + 1) s) hs _ hx ⟨_, hb, ho⟩)).trans hb
        have hl1 := hkeep hl rfl
        have hd1 := hkeep hd rfl
        have hs2 := hs.comp hs1
        refine ⟨_, run_beginRound hl1 (by rw [hrec]), ?_⟩
        have hs3 := hs2.objs (hN1 k s d) (.loop { rec .ready none with state := .busy }) hl1 rfl (by omega)
        generalize hV2 : V1.putObj (w.heap.size + 1) (.loop { rec .ready none with state := .busy }) = V2 at hs3
        have hl2 : V2.heap[w.heap.size + 1]? = some (.loop { rec .ready none with state := .busy }) := by rw [← hV2]; exact World.putObj_heap_same (Array.getElem?_eq_some_iff.1 hl1).1
        have hd2 : V2.heap[w.heap.size]? = some dEnd := by rw [← hV2]; exact (World.putObj_heap_other hne).trans hd1
        refine wpIn_mono (hbod _ k s d V2 a1 hk hc H1 hs3.s0) ?_
        have fin : ∀ (jump : Option Code) (L : List Ent) (W3 : World), NcL L → SH M (fpl (L1 k s d)) V2 L W3 →
            (Instr.endRound (w.heap.size + 1) jump).run P W3 = .ok (.bool jump.isNone) (W3.putObj (w.heap.size + 1) (.loop (rec (if jump.isNone then .ready else .done) jump))) ∧
            SH M X w0 L (W3.putObj (w.heap.size + 1) (.loop (rec (if jump.isNone then .ready else .done) jump))) ∧
            (W3.putObj (w.heap.size + 1) (.loop (rec (if jump.isNone then .ready else .done) jump))).heap[w.heap.size + 1]? = some (.loop (rec (if jump.isNone then .ready else .done) jump)) ∧
            (W3.putObj (w.heap.size + 1) (.loop (rec (if jump.isNone then .ready else .done) jump))).heap[w.heap.size]? = some dEnd := fun jump L W3 hnL hq3 => by
          have hkeep3 : ∀ {b : Nat} {o : Obj}, V2.heap[b]? = some o → o.isCells = false → W3.heap[b]? = some o := fun hb ho =>
            (hq3.kp.block _ (Array.getElem?_eq_some_iff.1 hb).1 (fun hx => fpl_nc (hN1 k s d) hs3 _ hx ⟨_, hb, ho⟩)).trans hb
          have hl3 := hkeep3 hl2 rfl
          have hd3 := hkeep3 hd2 rfl
          have hr := run_endRound (P := P) jump hl3
          have hs4 := (hs3.comp hq3).objs hnL (.loop (rec (if jump.isNone then .ready else .done) jump)) hl3 rfl (by omega)
          rw [hrec] at hr hs4 ⊢
          exact ⟨hr, hs4, World.putObj_heap_same (Array.getElem?_eq_some_iff.1 hl3).1, (World.putObj_heap_other hne).trans hd3⟩
        rintro e a3 W3 hp
        cases e with
        | normal =>
          obtain ⟨s', hc', hs'⟩ := hp
          obtain ⟨hr, h4, h5, h6⟩ := fin none _ W3 (hNL (k + 1) s') hs'
          exact ⟨_, _, hr, .inl ⟨rfl, ⟨s', hc', h4⟩, h5, h6⟩⟩
        | ret =>
          obtain ⟨y, hc', hs'⟩ := hp
          obtain ⟨hr, h4, h5, h6⟩ := fin (some .ret) _ W3 (hNR y) hs'
          exact ⟨_, _, hr, .inr ⟨rfl, ⟨y, hc', h4⟩, h5, h6⟩⟩
        | exit id => exact hp.elim
        | goto t => exact hp.elim
        | panic ch => exact hp.elim
        | outgrown => exact hp.elim
      | exit id => exact hq.elim
      | goto t => exact hq.elim
      | ret => exact hq.elim
      | panic ch => exact hq.elim
      | outgrown => exact hq.elim
    · -- behind the iterator
      rintro e W2 ⟨⟨v, rfl⟩, (⟨⟨s, hc, hs⟩, hl, hd⟩ | ⟨⟨y, hc, hs⟩, hl, hd⟩)⟩
      · refine ⟨none, _, by have := run_endLoop (P := P) hl (by rw [hrec]; simp); rw [hrec] at this; exact this, ?_⟩
        have hne : w.heap.size ≠ w.heap.size + 1 := by omega
        have h1 := hs.objs (hNL cnt s) (.loop { rec .ready none with state := .exhausted }) hl rfl (by omega)
        rw [hrec] at h1
        exact hdone s w.heap.size _ _ hw0 hc (hfrM _) (hlow (hNL cnt s) h1 ((World.putObj_heap_other hne).trans hd) (Nat.le_refl _))
      · refine ⟨some .ret, _, by have := run_endLoop (P := P) hl (by rw [hrec]; simp); rw [hrec] at this; exact this, ?_⟩
        have hne : w.heap.size ≠ w.heap.size + 1 := by omega
        have h1 := hs.objs (hNR y) (.loop { rec .done (some .ret) with state := .exhausted }) hl rfl (by omega)
        rw [hrec] at h1
        exact r_ret (r := none) (hret y w.heap.size _ _ hw0 hc (hfrM _) (hlow (hNR y) h1 ((World.putObj_heap_other hne).trans hd) (Nat.le_refl _)))
theorem blk_sh {w : World} {b : Nat} {cs : List Value} (h : Blk w b cs) : SH F0 [b] w [Ent.blk b cs] w := by
  refine ⟨Kp.refl _ _, by simp, fun y hy => ?_, fun y _ hm => hm.elim, fun y hm => hm.elim, fun e he => ?_⟩
  · simp only [fpl, Ent.blk, List.mem_append, List.mem_singleton, List.not_mem_nil, or_false] at hy
    exact .inr (by rw [List.mem_singleton]; exact hy)
  · rw [List.mem_singleton] at he
    subst he
    exact h
/-! ## Lines -/
def lnT : List UInt8 → List UInt8
  | [] => []
  | c :: r => cond (c == 10) [c] (c :: lnT r)
def lnR : List UInt8 → List UInt8
  | [] => []
  | c :: r => cond (c == 10) r (lnR r)
def lnK (s : List UInt8) : Nat → List UInt8
  | 0 => s
  | p + 1 => lnR (lnK s p)
def lnN : List UInt8 → Nat
  | [] => 0
  | c :: r => cond (c == 10) (1 + lnN r) (cond r.isEmpty 1 (lnN r))
theorem lnN_step : ∀ s : List UInt8, s ≠ [] → lnN s = 1 + lnN (lnR s)
  | [], h => absurd rfl h
  | c :: r, _ => by
    rw [lnN, lnR]
    cases (c == 10)
    · rw [cond_false, cond_false]
      cases r with
      | nil => rfl
      | cons d q => exact lnN_step (d :: q) (by simp)
    · rfl
theorem lnN_K (s : List UInt8) : ∀ k : Nat, lnN (lnK s k) = lnN s - k
  | 0 => rfl
  | k + 1 => by
    have ih := lnN_K s k
    rw [lnK]
    by_cases h : lnK s k = []
    · rw [h] at ih ⊢
      have e : lnN ([] : List UInt8) = 0 := rfl
      rw [e] at ih
      show lnN ([] : List UInt8) = _
      rw [e]
      omega
    · have := lnN_step _ h
      omega
theorem lnK_pos (s : List UInt8) (k : Nat) (h : k < lnN s) : decide (0 < ln (lnK s k)) = true := by
  have h1 := lnN_K s k
  refine decide_eq_true ?_
  unfold ln
  cases hk : lnK s k with
  | nil =>
    rw [hk] at h1
    have e : lnN ([] : List UInt8) = 0 := rfl
    omega
  | cons c r => simp only [List.length_cons]; omega
theorem lnK_end (s : List UInt8) : lnK s (lnN s) = [] := by
  have h1 := lnN_K s (lnN s)
  cases hk : lnK s (lnN s) with
  | nil => rfl
  | cons c r =>
    rw [hk] at h1
    have := lnN_step (c :: r) (by simp)
    omega
theorem lnK_nz (s : List UInt8) (k : Nat) (h : lnK s k ≠ []) : k < lnN s := by
  have h1 := lnN_K s k
  have h2 := lnN_step _ h
  omega
theorem lnR_len : ∀ s : List UInt8, (lnR s).length ≤ s.length
  | [] => Nat.le_refl _
  | c :: r => by
    rw [lnR]
    cases (c == 10)
    · exact Nat.le_succ_of_le (lnR_len r)
    · exact Nat.le_succ _
theorem lnK_len (s : List UInt8) : ∀ k : Nat, (lnK s k).length ≤ s.length
  | 0 => Nat.le_refl _
  | k + 1 => Nat.le_trans (lnR_len _) (lnK_len s k)
/-- Where the line feed stands. -/
theorem ln_ix : ∀ s : List UInt8, (Lib.indexByte s 10 = -1 ∧ lnT s = s ∧ lnR s = []) ∨ (∃ i : Nat, Lib.indexByte s 10 = (i : Int) ∧ i < s.length ∧ lnT s = s.take (i + 1) ∧ lnR s = s.drop (i + 1))
  | [] => .inl ⟨rfl, rfl, rfl⟩
  | c :: r => by
    rw [Lib.indexByte, lnT, lnR]
    cases hc : (c == 10)
    · rw [if_neg (by simp), cond_false, cond_false]
      rcases ln_ix r with ⟨h1, h2, h3⟩ | ⟨i, h1, h2, h3, h4⟩
      · refine .inl ⟨?_, by rw [h2], h3⟩
        rw [h1]; rfl
      · refine .inr ⟨i + 1, ?_, by simp only [List.length_cons]; omega, by rw [h3, List.take_succ_cons], by rw [h4, List.drop_succ_cons]⟩
        have hne : ((i : Int) == -1) = false := beq_eq_false_iff_ne.2 (by omega)
        rw [h1, if_neg (by rw [hne]; simp)]
        omega
    · rw [if_pos rfl, cond_true, cond_true]
      exact .inr ⟨0, rfl, by simp only [List.length_cons]; omega, rfl, rfl⟩
theorem ln_ix0 (s : List UInt8) (h : nIndexByte s 10 < 0) : lnT s = s ∧ lnR s = [] := by
  rcases ln_ix s with ⟨_, h2, h3⟩ | ⟨i, h1, _⟩
  · exact ⟨h2, h3⟩
  · have : nIndexByte s 10 = (i : Int) := h1
    omega
theorem ln_ix1 (s : List UInt8) (hl : s.length ≤ 1099511627776) (h : 0 ≤ nIndexByte s 10) : 0 ≤ w64 (nIndexByte s 10 + 1) ∧ w64 (nIndexByte s 10 + 1) ≤ ln s ∧ lnT s = sub s 0 (w64 (nIndexByte s 10 + 1)) ∧ lnR s = sub s (w64 (nIndexByte s 10 + 1)) (ln s) := by
  rcases ln_ix s with ⟨h1, _⟩ | ⟨i, h1, h2, h3, h4⟩
  · have : nIndexByte s 10 = -1 := h1
    omega
  · have e : nIndexByte s 10 = (i : Int) := h1
    have ew : w64 (nIndexByte s 10 + 1) = ((i + 1 : Nat) : Int) := by rw [e, w64_r (by omega) (by omega)]; omega
    rw [ew]
    refine ⟨by omega, by unfold ln; omega, ?_, ?_⟩
    · rw [h3]
      unfold sub
      simp only [Int.toNat_natCast]
      rfl
    · rw [h4]
      unfold sub ln
      simp only [Int.toNat_natCast]
      rw [List.take_of_length_le (by rw [List.length_drop]; omega)]
theorem fr_one {D : List Deferred} {n : Nat} {l : SF} {a a' : Act} (H : FrG D n l a) {p : Nat} {u : Value} (hl : (l.all fun e => e.2.1.isEmpty && !(Nat.beq e.1 p)) = true) (hp : Nat.blt p n = true)
    (hd : a'.defers = []) (ht : a'.tmps = a.tmps.setIfInBounds p u) : Fr n ((p, [], u) :: l) a' := by
  have hp' : p < a.tmps.size := by rw [H.2.1]; simpa [Nat.blt, Nat.lt_iff_add_one_le] using hp
  refine ⟨hd, by rw [ht]; simp [H.2.1], ?_⟩
  intro e he
  rcases List.mem_cons.1 he with rfl | he
  · refine ⟨fun _ => ?_, fun x => absurd (okc_nil a') x⟩
    rw [ht]
    dsimp only
    rw [Array.getElem?_setIfInBounds_self_of_lt hp']
  · have h1 := List.all_eq_true.1 hl e he
    simp only [Bool.and_eq_true, List.isEmpty_iff, Bool.not_eq_true'] at h1
    obtain ⟨h1, h2⟩ := h1
    rw [h1]
    refine ⟨fun _ => ?_, fun x => absurd (okc_nil a') x⟩
    have := (H.2.2 e he).1 (by rw [h1]; exact okc_nil a)
    rw [ht, Array.getElem?_setIfInBounds_ne (Ne.symm (Nat.ne_of_beq_eq_false h2))]
    exact this
theorem zip_one {p : Nat} {u : Value} (t : Array Value) : ((#[p] : Array Tmp).zip ⟨[u]⟩).foldl (fun t (p, v) => t.setIfInBounds p v) t = t.setIfInBounds p u := by
  simp
end Go.V

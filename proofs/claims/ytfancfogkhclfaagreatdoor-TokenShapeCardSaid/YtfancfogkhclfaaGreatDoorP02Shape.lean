/-
  TokenShape: the model comes to 'true' for every text. No program in sight.
-/
import Derived.Test.YtfancfogkhclfaaGreatDoorPL
set_option linter.unusedVariables false
set_option maxRecDepth 100000
namespace Go.Proofs.YtfancfogkhclfaaGreatDoor
open Go Go.V
theorem alive_ok : law02_alive 30000 = some true := by kernel_rfl
theorem com_far {s : Str} {b : Bool} {i j : Nat} (h : Com s b i j) (hj : j < s.length) (hne : i ≠ j) : i + 4 ≤ j := by
  cases h with
  | nil => exact absurd rfl hne
  | more h1 h2 h3 h4 =>
    have a := h2.le
    have : ∀ {b : Bool} {i j : Nat}, Com s b i j → i ≤ j := by
      intro b i j h
      induction h with
      | nil i => exact Nat.le_refl _
      | more h1 h2 h3 h4 ih => have := h2.le; omega
      | last h1 h2 => have := h2.le; omega
    have := this h4
    omega
  | last => omega
/-- What is asked of two neighbours. -/
theorem nth_toks {m : Nat} {s : Str} (hs : s.length ≤ 4000) (hm : 20100 < m) {i : Nat} {ts : List TToken} {ss : List TA2_int} (h : Toks m s i ts ss) : (∀ t ∈ ts, Good t) ∧
    (∀ (n : Nat) (h1 : n + 1 < ts.length) (h2 : n + 1 < ss.length), ts[n + 1].Kind = 13 → ts[n].Kind = 13 → ∃ a b : Nat, ss[n + 1].e0 = (b : Int) ∧ ss[n].e1 = (a : Int) ∧ a + 4 ≤ b ∧ b < 100000) := by
  induction h with
  | nil => exact ⟨fun t ht => (by cases ht), fun n h1 => absurd h1 (by simp)⟩
  | @cons i e j b t ts ss h1 h2 h3 h4 h5 h6 h7 h8 h9 h10 h11 ih =>
    obtain ⟨g1, g2⟩ := good_next m s hs hm i h1 h3
    refine ⟨fun x hx => ?_, fun n n1 n2 k1 k2 => ?_⟩
    · rcases List.mem_cons.1 hx with rfl | hx
      · exact g1
      · exact ih.1 x hx
    · cases n with
      | succ n => exact ih.2 n (by simpa using n1) (by simpa using n2) k1 k2
      | zero =>
        cases h11 with
        | nil => simp at n1
        | @cons _ e' j' b' t' ts' ss' f1 f2 f3 f4 f5 f6 f7 f8 f9 f10 f11 =>
          obtain ⟨q1, q2⟩ := good_next m s hs hm j f1 f3
          have k1' : t'.Kind = 13 := k1
          have k2' : t.Kind = 13 := k2
          refine ⟨e, j, rfl, rfl, com_far h7 f1 ?_, by omega⟩
          intro hej
          have a := (q2 k1').1
          have b := (g2 k2').2
          rw [← hej, b] at a
          cases a
theorem shape_L1 (m : Nat) (T : List TToken) (S : List TA2_int) (hl : T.length = S.length) (hb : T.length < 100000) (hg : ∀ t ∈ T, Good t)
    (hn : ∀ (n : Nat) (h1 : n + 1 < T.length) (h2 : n + 1 < S.length), T[n + 1].Kind = 13 → T[n].Kind = 13 → ∃ a b : Nat, S[n + 1].e0 = (b : Int) ∧ S[n].e1 = (a : Int) ∧ a + 4 ≤ b ∧ b < 100000) :
    ∀ (kk i : Nat), T.length - i < kk → i ≤ T.length → law02_TokenShape_L1 m (T, 0) (S, 0) kk (i : Int) = some (.inr ()) := by
  intro kk
  induction kk with
  | zero => intro i h; omega
  | succ kk ih =>
    intro i hk hi
    rw [law02_TokenShape_L1]
    by_cases hlt : i < T.length
    · have hls : i < S.length := by omega
      have hgi : gi ((T, (0 : Int)) : List TToken × Int).1 (i : Int) = T[i] := gi_nat T i hlt
      rw [show decide ((i : Int) < ln ((T, (0 : Int)) : List TToken × Int).1) = true from lt_dec hlt, cond_true, chk_ix hlt, hgi, show law02_shaped T[i] = some true from hg _ (List.getElem_mem hlt), Option.bind_some, Bool.not_true, cond_false]
      rw [w64_ix (by omega)]
      cases h0 : decide ((0 : Int) < (i : Int)) with
      | false =>
        rw [cond_false, chk_pos (fun h => by cases h), cond_false, chk_pos (fun h => by cases h), chk_pos (fun h => by cases h), cond_false, lt_eq, cond_false]
        exact ih (i + 1) (by omega) hlt
      | true =>
        have hi0 : 0 < i := by have := of_decide_eq_true h0; omega
        obtain ⟨n, rfl⟩ : ∃ n, i = n + 1 := ⟨i - 1, by omega⟩
        have hw : w64 (((n + 1 : Nat) : Int) - 1) = (n : Int) := by rw [w64_id (by omega) (by omega)]; omega
        have hgn : gi ((T, (0 : Int)) : List TToken × Int).1 (n : Int) = T[n] := gi_nat T n (by omega)
        rw [hw, hgn, cond_true]
        rw [chk_pos (fun _ _ => ⟨by omega, by unfold ln; show (n : Int) < ((T.length : Nat) : Int); omega⟩)]
        rw [chk_pos (fun _ _ => ⟨by omega, by unfold ln; show ((n + 1 : Nat) : Int) < ((S.length : Nat) : Int); omega⟩)]
        rw [chk_pos (fun _ _ => ⟨by omega, by unfold ln; show (n : Int) < ((S.length : Nat) : Int); omega⟩), lt_eq]
        have hx : cond (cond (T[n + 1].Kind == 13) (T[n].Kind == 13) false) (decide (w64 ((gi ((S, (0 : Int)) : List TA2_int × Int).1 ((n + 1 : Nat) : Int)).e0 - (gi ((S, (0 : Int)) : List TA2_int × Int).1 (n : Int)).e1) < 4)) false = false := by
          cases k1 : (T[n + 1].Kind == 13) with
          | false => rfl
          | true =>
            cases k2 : (T[n].Kind == 13) with
            | false => rfl
            | true =>
              obtain ⟨a, b, a1, a2, a3, a4⟩ := hn n hlt hls (eq_of_beq k1) (eq_of_beq k2)
              rw [show gi ((S, (0 : Int)) : List TA2_int × Int).1 ((n + 1 : Nat) : Int) = S[n + 1] from gi_nat S (n + 1) hls, show gi ((S, (0 : Int)) : List TA2_int × Int).1 (n : Int) = S[n] from gi_nat S n (by omega), a1, a2, w64_id (by omega) (by omega)]
              exact decide_eq_false (by omega)
        rw [hx, cond_false]
        exact ih (n + 1 + 1) (by omega) hlt
    · rw [show decide ((i : Int) < ln ((T, (0 : Int)) : List TToken × Int).1) = false from ge_dec (by show T.length ≤ i; omega), cond_false]
theorem plain_TokenShape (s : Str) {p : Prop} (_ : p) : law02_TokenShape 30000 s = some true := by
  unfold law02_TokenShape
  by_cases h5 : s.length ≤ 500
  · obtain ⟨e1, e2⟩ := clean_500 h5
    obtain ⟨b, j, ts, ss, R⟩ := reads 30000 s _ e1 e2 (by decide)
    obtain ⟨l1, l2⟩ := R.toks.len
    obtain ⟨g1, g2⟩ := nth_toks (by omega) (by decide) R.toks
    rw [show decide ((500 : Int) < ln s) = false from decide_eq_false (by unfold ln; omega), cond_false, R.t1, R.t2, Option.bind_some, Option.bind_some, lt_eq]
    try dsimp only
    rw [show (cond ((0 : Int) != 0) true (ln ts != ln ss)) = false from by unfold ln; rw [l1]; simp, cond_false]
    rw [show law02_TokenShape_L1 30000 (ts, 0) (ss, 0) 30000 0 = _ from shape_L1 30000 ts ss l1 (by omega) g1 g2 30000 0 (by omega) (by omega), Option.bind_some]
    unfold sumK
    try dsimp only
    rw [alive_ok]
    rfl
  · rw [show decide ((500 : Int) < ln s) = true from decide_eq_true (by unfold ln; omega), cond_true, alive_ok]
    rfl
end Go.Proofs.YtfancfogkhclfaaGreatDoor

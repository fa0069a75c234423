/-
  TokenCovers: the model comes to 'true' for every text. No program in sight.
-/
import Derived.Test.YtfancfogkhclfaaGreatDoorPZ
set_option linter.unusedVariables false
set_option maxRecDepth 100000
namespace Go.Proofs.YtfancfogkhclfaaGreatDoor
open Go Go.V
theorem alive_ok : law02_alive 30000 = some true := by kernel_rfl
theorem sub_len (s : Str) (a b : Nat) (h : a ≤ b) (hb : b ≤ s.length) : (sub s (a : Int) (b : Int)).length = b - a := by
  unfold sub; rw [Int.toNat_natCast, Int.toNat_natCast, List.length_take, List.length_drop]; omega
theorem sub_get (s : Str) (a b k : Nat) (h : a ≤ b) (hb : b ≤ s.length) (hk : a + k < b) : (sub s (a : Int) (b : Int))[k]? = s[a + k]? := by
  unfold sub; rw [Int.toNat_natCast, Int.toNat_natCast, List.getElem?_take, if_pos (by omega), List.getElem?_drop]
theorem at2_sub (x y : Nat) (s : Str) (a b k : Nat) (h : a ≤ b) (hb : b ≤ s.length) (hk : a + k + 1 < b) : at2 x y (sub s (a : Int) (b : Int)) k = at2 x y s (a + k) := by
  unfold at2 tst
  rw [sub_get s a b k h hb (by omega), sub_get s a b (k + 1) h hb (by omega)]; rfl
theorem bat_ne {u : Str} {i c : Nat} (h : i < u.length) (hc : c ≠ 0) : (bat u (i : Int) != (c : Int)) = !(tst (isb c) u i) := by rw [bne, bat_is h c hc]
theorem cL2 (m : Nat) (u : Str) (hu : u.length < 100000) : ∀ (kk i z : Nat), u.length - i < kk → CEnd u i z → law02_comments_L2 m u kk (i : Int) = some (z : Int) := by
  intro kk
  induction kk with
  | zero => intro i z h; omega
  | succ kk ih =>
    intro i z hk hz
    have h1 := hz.le
    have h2 := hz.len
    have hw : w64 ((i : Int) + 1) = ((i + 1 : Nat) : Int) := w64_ix (by omega)
    rw [law02_comments_L2, hw]
    by_cases hlt : i < u.length
    · have e42 : (bat u (i : Int) != 42) = !(tst (isb 42) u i) := bat_ne hlt (by decide)
      rw [lt_dec hlt, chk_pos (fun _ => ⟨by omega, by unfold ln; omega⟩), e42]
      by_cases hi1 : i + 1 < u.length
      · have e47 : (bat u ((i + 1 : Nat) : Int) != 47) = !(tst (isb 47) u (i + 1)) := bat_ne hi1 (by decide)
        rw [show ((((i + 1 : Nat) : Int)) == ln u) = false from beq_eq_false_iff_ne.2 (by unfold ln; omega), chk_pos (fun _ _ => ⟨by omega, by unfold ln; omega⟩), cond_true, lt_eq, e47]
        have hx : (cond (cond (!tst (isb 42) u i) true false) true (!tst (isb 47) u (i + 1))) = !(at2 42 47 u i) := by
          unfold at2; cases tst (isb 42) u i <;> cases tst (isb 47) u (i + 1) <;> rfl
        rw [hx]
        by_cases hzi : z = i
        · subst hzi
          rw [hz.fin.resolve_left (by omega)]; rfl
        · rw [hz.no i (Nat.le_refl _) (by omega), Bool.not_false, cond_true]
          exact ih (i + 1) z (by omega) ⟨by omega, h2, fun j a b => hz.no j (by omega) b, hz.fin⟩
      · have hend : i + 1 = u.length := by omega
        rw [show ((((i + 1 : Nat) : Int)) == ln u) = true from beq_iff_eq.2 (by unfold ln; omega), chk_pos (fun h => by revert h; cases tst (isb 42) u i <;> (intro h; cases h)), lt_eq, cond_true]
        have hx : (cond (cond (!tst (isb 42) u i) true true) true (bat u ((i + 1 : Nat) : Int) != 47)) = true := by cases tst (isb 42) u i <;> rfl
        rw [hx, cond_true]
        have hzl : z = u.length := by
          rcases hz.fin with h | h
          · exact h
          · have := at2_lt h; omega
        exact ih (i + 1) z (by omega) ⟨by omega, h2, fun j a b => hz.no j (by omega) b, hz.fin⟩
    · have hzi : z = i := by omega
      subst hzi
      rw [ge_dec (by omega), chk_pos (fun h => by cases h), chk_pos (fun _ h => by cases h), lt_eq, cond_false, cond_false]
/-- A round of the law's own reader. -/
theorem step_c (m : Nat) (u : Str) (hu : u.length < 100000) (last : Bool) (kk i : Nat) (h : at2 47 42 u i = true) {z : Nat} (hm : u.length < m) (hz : CEnd u (i + 2) z) :
    law02_comments_L1 m u last (kk + 1) (i : Int) = if z = u.length then some (.inl last) else law02_comments_L1 m u last kk ((z + 2 : Nat) : Int) := by
  have hl := at2_lt h
  have hzl := hz.len
  have h47 : tst (isb 47) u i = true := by
    unfold at2 at h
    cases h1 : tst (isb 47) u i with
    | false => rw [h1] at h; cases h
    | true => rfl
  have h42 : tst (isb 42) u (i + 1) = true := by
    unfold at2 at h
    rw [h47, cond_true] at h
    exact h
  have e47 : (bat u (i : Int) != 47) = false := by rw [show (bat u (i : Int) != 47) = !(tst (isb 47) u i) from bat_ne (by omega) (by decide), h47]; rfl
  have e42 : (bat u ((i + 1 : Nat) : Int) != 42) = false := by rw [show (bat u ((i + 1 : Nat) : Int) != 42) = !(tst (isb 42) u (i + 1)) from bat_ne (by omega) (by decide), h42]; rfl
  have hw : w64 (ln u - (i : Int)) = ((u.length - i : Nat) : Int) := by unfold ln; rw [w64_id (by omega) (by omega)]; omega
  have hw2 : w64 ((i : Int) + 2) = ((i + 2 : Nat) : Int) := w64_add (n := 2) (by omega)
  have hw3 : w64 ((z : Int) + 2) = ((z + 2 : Nat) : Int) := w64_add (n := 2) (by omega)
  rw [law02_comments_L1, lt_dec (by omega), cond_true, hw, show decide (((u.length - i : Nat) : Int) < 2) = false from decide_eq_false (by omega), chk_pos (fun _ => ⟨by omega, by unfold ln; omega⟩), lt_eq, cond_false, e47, w64_ix (by omega), chk_pos (fun _ => ⟨by omega, by unfold ln; omega⟩), lt_eq, cond_false, e42, cond_false, hw2, cL2 m u hu m (i + 2) z (by omega) hz, Option.bind_some, hw3]
  by_cases hzl2 : z = u.length
  · rw [if_pos hzl2, show ((z : Int) == ln u) = true from beq_iff_eq.2 (by unfold ln; omega), cond_true]
  · rw [if_neg hzl2, show ((z : Int) == ln u) = false from beq_eq_false_iff_ne.2 (by unfold ln; omega), cond_false]
theorem Com.le {s : Str} {b : Bool} {i j : Nat} (h : Com s b i j) : i ≤ j := by
  induction h with
  | nil i => exact Nat.le_refl _
  | more h1 h2 h3 h4 ih => have := h2.le; omega
  | last h1 h2 => have := h2.le; omega
/-- What is nothing but comments, as a text of its own. -/
theorem com_ok (m : Nat) (s : Str) (hs : s.length < 100000) (a J : Nat) (hJ : J ≤ s.length) (last : Bool) (hm : s.length + 1 < m) {b : Bool} {i j : Nat} (h : Com s b i j) : j = J → (b = true → J = s.length ∧ last = true) → a ≤ i → ∀ kk, j - i < kk →
    ∃ z, law02_comments_L1 m (sub s (a : Int) (J : Int)) last kk ((i - a : Nat) : Int) = some z ∧ sumK z (fun _ => some true) = some true := by
  induction h with
  | nil i =>
    intro hj _ ha kk hk
    subst hj
    obtain ⟨k, rfl⟩ : ∃ k, kk = k + 1 := ⟨kk - 1, by omega⟩
    rw [law02_comments_L1, ge_dec (by rw [sub_len s a i ha hJ]; omega), cond_false]
    exact ⟨_, rfl, rfl⟩
  | @more i z j b h1 h2 h3 h4 ih =>
    intro hj hb ha kk hk
    subst hj
    have l1 := at2_lt h1
    have l2 := at2_lt h3
    have l3 := h2.le
    have hzj := h4.le
    have hul := sub_len s a j (by omega) hJ
    obtain ⟨k, rfl⟩ : ∃ k, kk = k + 1 := ⟨kk - 1, by omega⟩
    obtain ⟨w, f1, f2⟩ := ih rfl hb (by omega) k (by omega)
    refine ⟨w, ?_, f2⟩
    have hi0 : i - a < (sub s (a : Int) (j : Int)).length := by omega
    have h1' : at2 47 42 (sub s (a : Int) (j : Int)) (i - a) = true := by rw [at2_sub 47 42 s a j (i - a) (by omega) hJ (by omega), show a + (i - a) = i from by omega]; exact h1
    have hc : CEnd (sub s (a : Int) (j : Int)) (i - a + 2) (z - a) := ⟨by omega, by omega, fun q q1 q2 => by
      rw [at2_sub 42 47 s a j q (by omega) hJ (by omega)]; exact h2.no _ (by omega) (by omega), Or.inr (by rw [at2_sub 42 47 s a j (z - a) (by omega) hJ (by omega), show a + (z - a) = z from by omega]; exact h3)⟩
    rw [step_c m _ (by omega) last k (i - a) h1' (by omega) hc, if_neg (by omega), show z - a + 2 = z + 2 - a from by omega]
    exact f1
  | @last i h1 h2 =>
    intro hj hb ha kk hk
    subst hj
    obtain ⟨_, hl⟩ := hb rfl
    subst hl
    have l1 := at2_lt h1
    have l3 := h2.le
    have hul := sub_len s a s.length (by omega) hJ
    obtain ⟨k, rfl⟩ : ∃ k, kk = k + 1 := ⟨kk - 1, by omega⟩
    refine ⟨.inl true, ?_, rfl⟩
    have h1' : at2 47 42 (sub s (a : Int) (s.length : Int)) (i - a) = true := by rw [at2_sub 47 42 s a s.length (i - a) (by omega) hJ (by omega), show a + (i - a) = i from by omega]; exact h1
    have hc : CEnd (sub s (a : Int) (s.length : Int)) (i - a + 2) (s.length - a) := ⟨by omega, by omega, fun q q1 q2 => by
      by_cases hq : a + q + 1 < s.length
      · rw [at2_sub 42 47 s a s.length q (by omega) hJ (by omega)]; exact h2.no _ (by omega) (by omega)
      · cases hx : at2 42 47 (sub s (a : Int) (s.length : Int)) q with
        | false => rfl
        | true => have := at2_lt hx; omega, Or.inl (by omega)⟩
    rw [step_c m _ (by omega) true k (i - a) h1' (by omega) hc, if_pos (by omega)]
theorem comments_ok (m : Nat) (s : Str) (hs : s.length < 100000) (hm : s.length + 1 < m) (last : Bool) {b : Bool} {i j : Nat} (hj : j ≤ s.length) (h : Com s b i j) (hb : b = true → j = s.length ∧ last = true) : law02_comments m (sub s (i : Int) (j : Int)) last = some true := by
  obtain ⟨z, f1, f2⟩ := com_ok m s hs i j hj last hm h rfl hb (Nat.le_refl _) m (by omega)
  rw [Nat.sub_self] at f1
  unfold law02_comments
  rw [show law02_comments_L1 m (sub s (i : Int) (j : Int)) last m 0 = _ from f1]
  exact f2
theorem covers_L1 (m : Nat) (s : Str) (hs : s.length < 100000) (hm : s.length + 1 < m) (S : List TA2_int) {i : Nat} {ts : List TToken} {ss : List TA2_int} (h : Toks m s i ts ss) : ∀ (v k : Nat) (b : Bool), S.drop k = ss → k ≤ S.length → Com s b v i → (b = true → i = s.length) → v ≤ i → S.length < 100000 → ∀ kk, ss.length < kk →
    ∃ w : Nat, law02_TokenCovers_L1 m (s, 0) (S, 0) kk (v : Int) (k : Int) = some (.inr (w : Int)) ∧ w ≤ s.length ∧ ∃ b, Com s b w s.length := by
  induction h with
  | nil =>
    intro v k b hS hk hc _ hv hl kk hkk
    obtain ⟨q, rfl⟩ : ∃ q, kk = q + 1 := ⟨kk - 1, by omega⟩
    have : S.length ≤ k := by simpa using hS
    rw [law02_TokenCovers_L1, show decide ((k : Int) < ln ((S, (0 : Int)) : List TA2_int × Int).1) = false from ge_dec this, cond_false]
    exact ⟨v, rfl, hv, b, hc⟩
  | @cons i e j b2 t ts ss h1 h2 h3 h4 h5 h6 h7 h8 h9 h10 h11 ih =>
    intro v k b hS hk hc hb hv hl kk hkk
    obtain ⟨q, rfl⟩ : ∃ q, kk = q + 1 := ⟨kk - 1, by omega⟩
    have hkl : k < S.length := by
      by_cases h : k < S.length
      · exact h
      · rw [List.drop_eq_nil_of_le (by omega)] at hS; cases hS
    rw [List.drop_eq_getElem_cons hkl] at hS
    injection hS with hS1 hS2
    have hgi : gi S (k : Int) = TA2_int.mk (i : Int) (e : Int) := by rw [gi_nat S k hkl, hS1]
    have hbf : b = false := by
      cases b with
      | false => rfl
      | true => have := hb rfl; omega
    subst hbf
    have hcm := comments_ok m s hs hm false (by omega) hc (fun h => by cases h)
    rw [law02_TokenCovers_L1, show decide ((k : Int) < ln ((S, (0 : Int)) : List TA2_int × Int).1) = true from lt_dec hkl, cond_true, chk_ix hkl, show gi ((S, (0 : Int)) : List TA2_int × Int).1 (k : Int) = _ from hgi]
    try dsimp only
    rw [show decide ((i : Int) < (v : Int)) = false from decide_eq_false (by omega), show decide ((e : Int) ≤ (i : Int)) = false from decide_eq_false (by omega), lt_eq, cond_false, lt_eq, cond_false, show decide (ln s < (e : Int)) = false from decide_eq_false (by unfold ln; omega), chk_pos (fun _ => ⟨by omega, by omega, by unfold ln; omega⟩), cond_false, hcm, Option.bind_some, Bool.not_true, cond_false, cond_false, w64_ix (by omega)]
    exact ih e (k + 1) b2 hS2 hkl h7 h8 h9 hl q (by simp only [List.length_cons] at hkk; omega)
theorem plain_TokenCovers (s : Str) {p : Prop} (_ : p) : law02_TokenCovers 30000 s = some true := by
  unfold law02_TokenCovers
  by_cases h5 : s.length ≤ 500
  · obtain ⟨e1, e2⟩ := clean_500 h5
    obtain ⟨b, j, ts, ss, R⟩ := reads 30000 s _ e1 e2 (by decide)
    obtain ⟨l1, l2⟩ := R.toks.len
    obtain ⟨w, g1, g2, b', g3⟩ := covers_L1 30000 _ (by omega) (by omega) ss R.toks 0 0 b (by simp) (by omega) R.com R.fin (by omega) (by omega) 30000 (by omega)
    have hcm := comments_ok 30000 _ (by omega) (by omega) true (Nat.le_refl _) g3 (fun _ => ⟨rfl, rfl⟩)
    rw [show decide ((500 : Int) < ln s) = false from decide_eq_false (by unfold ln; omega), cond_false, e1, lt_eq, R.t1, R.t2, Option.bind_some, Option.bind_some, lt_eq]
    try dsimp only
    rw [show (cond (cond (cond ((0 : Int) != 0) true ((0 : Int) != 0)) true (cond ((0 : Int) != 0) ((0 : Int) != 4) false)) true (ln ts != ln ss)) = false from by unfold ln; rw [l1]; simp, cond_false, show ((0 : Int) != 0) = false from rfl, cond_false]
    rw [show law02_TokenCovers_L1 30000 (cleanS false s, 0) (ss, 0) 30000 0 0 = _ from g1, Option.bind_some]
    unfold sumK
    try dsimp only
    rw [chk_pos ⟨by omega, by unfold ln; omega⟩, show law02_comments 30000 (sub (cleanS false s) (w : Int) (ln (cleanS false s))) true = _ from hcm, Option.bind_some, cond_true, alive_ok]
    rfl
  · rw [show decide ((500 : Int) < ln s) = true from decide_eq_true (by unfold ln; omega), cond_true, alive_ok]
    rfl
end Go.Proofs.YtfancfogkhclfaaGreatDoor

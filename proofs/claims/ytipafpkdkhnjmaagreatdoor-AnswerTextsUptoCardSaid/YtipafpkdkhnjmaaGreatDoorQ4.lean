/-
  Answers as text: the program's reader, whole. No program in sight.
-/
import Derived.Test.YtipafpkdkhnjmaaGreatDoorQ3
set_option linter.unusedVariables false
set_option maxRecDepth 100000
namespace Go.Proofs.YtipafpkdkhnjmaaGreatDoor
open Go Go.V Go.RowKit
theorem tot_app (a b : List Str) : tot (a ++ b) = tot a + tot b := by simp [tot]
/-! ## Items -/
theorem rd4_ok (m : Nat) (t r : Str) (x y : Int) (ts : List Str) (ns : List Int) (hl : (qt t ++ r).length < 1000000000) (hm : t.length < m) (hts : ts.length ≤ 1000000000) : answer_read_4 m (qt t ++ r) x y ts ns = some (true, r, ts ++ [t]) := by
  have e : qt t ++ r = [34] ++ (chs t ++ 34 :: r) := by unfold qt; simp
  rw [e] at hl ⊢
  have hl2 : (chs t ++ 34 :: r).length < 1000000000 := by
    rw [List.length_append] at hl; omega
  have hl3 : (chs t ++ 34 :: r).length = (chs t).length + 1 + r.length := by rw [List.length_append, List.length_cons]; omega
  unfold answer_read_4
  rw [rd1_t [34] _ (by omega) (by decide), Option.bind_some, Bool.not_true, cond_false, uq_ok m t r hl2 hm, Option.bind_some]
  dsimp only
  rw [chk_pos (app_len _ _ (by omega) (by simp)), lt_eq, chk_pos ⟨by omega, by unfold ln; omega⟩, sub_end _ ((chs t).length + 1) (by omega), decide_eq_true (by omega)]
  have : (chs t ++ 34 :: r).drop ((chs t).length + 1) = r := by
    rw [← List.drop_drop, List.drop_left]; rfl
  rw [this]
theorem rd4_tot (m : Nat) (u : Str) (x y : Int) (ts : List Str) (ns : List Int) (hu : u.length < 1000000000) (hm : u.length < m) (hts : ts.length ≤ 1000000000) :
    ∃ (ok : Bool) (r : Str) (ts' : List Str), answer_read_4 m u x y ts ns = some (ok, r, ts') ∧ r.length ≤ u.length ∧ (ok = true → r.length < u.length) ∧ tot ts' + r.length ≤ tot ts + u.length ∧ ts'.length + r.length ≤ ts.length + u.length := by
  unfold answer_read_4
  obtain ⟨ok, r, h1, h2, h3⟩ := rd1_tot [34] u (by omega) (by decide) (by decide)
  rw [h1, Option.bind_some]
  cases ok with
  | false => exact ⟨false, r, ts, rfl, h2, (fun h => by cases h), by omega, by omega⟩
  | true =>
    have h3 := h3 rfl
    obtain ⟨t, n, g1, g2, g3⟩ := uq_tot m r (by omega) (by omega)
    have hd : (r.drop n).length = r.length - n := List.length_drop
    rw [Bool.not_true, cond_false, g1, Option.bind_some]
    dsimp only
    rw [chk_pos (app_len _ _ (by omega) (by simp)), lt_eq, chk_pos ⟨by omega, by unfold ln; omega⟩, sub_end r n g2]
    exact ⟨_, _, _, rfl, by omega, fun _ => by omega, by rw [tot_app]; simp [tot]; omega, by simp; omega⟩
theorem rd5_ok {n : Int} (h : In64 n) {c : UInt8} (hc : stopB c = true) (r : Str) (hr : r.length < 1000000000) (x y : Int) (ts : List Str) (ns : List Int) (hns : ns.length ≤ 1000000000) : answer_read_5 (Lib.itoa n ++ c :: r) x y ts ns = some (true, c :: r, ns ++ [n]) := by
  unfold answer_read_5
  rw [rd2_ok h hc r hr, Option.bind_some, chk_pos (app_len _ _ (by omega) (by simp)), lt_eq]
theorem rd5_tot (u : Str) (hu : u.length < 1000000000) (x y : Int) (ts : List Str) (ns : List Int) (hns : ns.length ≤ 1000000000) :
    ∃ (n : Int) (ok : Bool) (r : Str), answer_read_5 u x y ts ns = some (ok, r, ns ++ [n]) ∧ In64 n ∧ r.length ≤ u.length ∧ (ok = true → r.length < u.length) := by
  unfold answer_read_5
  obtain ⟨n, ok, r, h1, h2, h3, h4⟩ := rd2_tot u hu
  rw [h1, Option.bind_some, chk_pos (app_len _ _ (by omega) (by simp)), lt_eq]
  exact ⟨n, ok, r, rfl, h2, h3, h4⟩
/-! ## Lists of texts -/
theorem l3_ok (m : Nat) (x y : Int) (ns : List Int) (r : Str) : ∀ (l : List Str) (kk : Nat) (acc : List Str), ((l.map qt).flatMap ([44, 32] ++ ·) ++ 93 :: r).length < 1000000000 → l.length < kk → (∀ t ∈ l, t.length < m) → acc.length + l.length ≤ 1000000000 →
    answer_read_3_L1 m x y ns kk false ((l.map qt).flatMap ([44, 32] ++ ·) ++ 93 :: r) acc = some (.inr (r, acc ++ l)) := by
  intro l
  induction l with
  | nil =>
    intro kk acc hl hk hm ha
    obtain ⟨k, rfl⟩ : ∃ k, kk = k + 1 := ⟨kk - 1, by simp at hk; omega⟩
    rw [answer_read_3_L1]
    have e0 : (([] : List Str).map qt).flatMap ([44, 32] ++ ·) ++ 93 :: r = [93] ++ r := rfl
    rw [e0] at hl ⊢
    rw [rd1_t [93] r (by omega) (by decide), Option.bind_some, Bool.not_true, cond_false, List.append_nil]
  | cons t l ih =>
    intro kk acc hl hk hm ha
    obtain ⟨k, rfl⟩ : ∃ k, kk = k + 1 := ⟨kk - 1, by simp at hk; omega⟩
    have e : ((t :: l).map qt).flatMap ([44, 32] ++ ·) ++ 93 :: r = 44 :: 32 :: (qt t ++ ((l.map qt).flatMap ([44, 32] ++ ·) ++ 93 :: r)) := by
      rw [List.map_cons, List.flatMap_cons]; simp
    rw [e] at hl ⊢
    simp only [List.length_cons] at hl hk ha
    have htm := hm t List.mem_cons_self
    have hl2 : ((l.map qt).flatMap ([44, 32] ++ ·) ++ 93 :: r).length < 1000000000 := by rw [List.length_append] at hl; omega
    have hl5 : ([44, 32] ++ (qt t ++ ((l.map qt).flatMap ([44, 32] ++ ·) ++ 93 :: r)) : Str).length < 100000000000 := by
      rw [List.length_append]; show 2 + _ < _; omega
    rw [answer_read_3_L1, rd1_f (a := 93) [] _ (by decide) (by simp only [List.length_cons]; omega) (by decide), Option.bind_some, Bool.not_false, cond_true, lt_eq, cond_true]
    rw [show answer_read_1 [44, 32] (44 :: 32 :: (qt t ++ ((l.map qt).flatMap ([44, 32] ++ ·) ++ 93 :: r))) = some (true, qt t ++ ((l.map qt).flatMap ([44, 32] ++ ·) ++ 93 :: r)) from rd1_t [44, 32] _ hl5 (by decide), Option.bind_some, Bool.not_true, lt_eq, cond_false]
    rw [rd4_ok m t _ x y acc ns (by omega) htm (by omega), Option.bind_some, Bool.not_true, Option.bind_some, cond_false, ih k (acc ++ [t]) hl2 (by omega) (fun q hq => hm q (List.mem_cons_of_mem _ hq)) (by simp; omega), List.append_assoc]
    rfl
theorem rd3_ok (m : Nat) (x y : Int) (ns : List Int) (r : Str) (l : List Str) (hl : (ls (l.map qt) ++ r).length < 1000000000) (hk : l.length < m) (hm : ∀ t ∈ l, t.length < m) (hm0 : 1 < m) :
    answer_read_3 m (ls (l.map qt) ++ r) x y [] ns = some (true, r, l) := by
  unfold answer_read_3
  have e : ls (l.map qt) ++ r = [91] ++ (jn [44, 32] (l.map qt) ++ 93 :: r) := by unfold ls; simp
  rw [e] at hl ⊢
  have hl2 : (jn [44, 32] (l.map qt) ++ 93 :: r).length < 1000000000 := by rw [List.length_append] at hl; omega
  rw [rd1_t [91] _ (by omega) (by decide), Option.bind_some, Bool.not_true, cond_false]
  obtain ⟨k, rfl⟩ : ∃ k, m = k + 1 := ⟨m - 1, by omega⟩
  have key : answer_read_3_L1 (k + 1) x y ns (k + 1) true (jn [44, 32] (l.map qt) ++ 93 :: r) [] = some (.inr (r, l)) := by
    cases l with
    | nil =>
      rw [answer_read_3_L1]
      have hl4 : ([93] ++ r).length < 1000000000 := hl2
      rw [show answer_read_1 [93] (jn [44, 32] (([] : List Str).map qt) ++ 93 :: r) = some (true, r) from rd1_t [93] r (by omega) (by decide), Option.bind_some, Bool.not_true, cond_false]
    | cons t l =>
      have e2 : jn [44, 32] ((t :: l).map qt) ++ 93 :: r = qt t ++ ((l.map qt).flatMap ([44, 32] ++ ·) ++ 93 :: r) := by
        rw [List.map_cons]; unfold jn; rw [List.append_assoc]
      rw [e2] at hl2 ⊢
      have htm := hm t List.mem_cons_self
      have hl3 : ((l.map qt).flatMap ([44, 32] ++ ·) ++ 93 :: r).length < 1000000000 := by rw [List.length_append] at hl2; omega
      simp only [List.length_cons] at hk
      have e3 : qt t ++ ((l.map qt).flatMap ([44, 32] ++ ·) ++ 93 :: r) = 34 :: (chs t ++ [34] ++ ((l.map qt).flatMap ([44, 32] ++ ·) ++ 93 :: r)) := rfl
      have hf : answer_read_1 [93] (qt t ++ ((l.map qt).flatMap ([44, 32] ++ ·) ++ 93 :: r)) = some (false, qt t ++ ((l.map qt).flatMap ([44, 32] ++ ·) ++ 93 :: r)) := by
        rw [e3] at hl2 ⊢
        exact rd1_f (a := 93) [] _ (by decide) (by omega) (by decide)
      rw [answer_read_3_L1, hf, Option.bind_some, Bool.not_false, cond_true, Bool.not_true, lt_eq, cond_false]
      rw [rd4_ok (k + 1) t _ x y [] ns hl2 htm (by simp), Option.bind_some, Bool.not_true, Option.bind_some, cond_false, l3_ok (k + 1) x y ns r l k ([] ++ [t]) hl3 (by omega) (fun q hq => hm q (List.mem_cons_of_mem _ hq)) (by simp; simp only [List.length_append] at hl3; have := fm_len [44, 32] (l.map qt); rw [List.length_map] at this; simp only [List.length_cons, List.length_nil] at this; omega)]
      rfl
  rw [key, Option.bind_some]
  rfl
theorem l3_tot (m : Nat) (x y : Int) (ns : List Int) : ∀ (kk : Nat) (first : Bool) (u : Str) (ts : List Str), u.length < kk → u.length < m → ts.length + u.length < 1000000000 →
    ∃ (z : Sum (Bool × Str × List Str) (Str × List Str)) (r : Str) (ts' : List Str), answer_read_3_L1 m x y ns kk first u ts = some z ∧ (z = .inl (false, r, ts') ∨ z = .inr (r, ts')) ∧ r.length ≤ u.length ∧ tot ts' + r.length ≤ tot ts + u.length ∧ ts'.length + r.length ≤ ts.length + u.length := by
  intro kk
  induction kk with
  | zero => intro first u ts h; omega
  | succ kk ih =>
    intro first u ts hk hm hts
    rw [answer_read_3_L1]
    obtain ⟨ok, r, h1, h2, h3⟩ := rd1_tot [93] u (by omega) (by decide) (by decide)
    rw [h1, Option.bind_some]
    cases ok with
    | true => exact ⟨_, r, ts, rfl, Or.inr rfl, h2, by omega, by omega⟩
    | false =>
      rw [Bool.not_false, cond_true]
      -- one item
      have one : ∀ v : Str, v.length ≤ u.length → ∃ (z : Sum (Bool × Str × List Str) (Str × List Str)) (r : Str) (ts' : List Str),
          (Option.bind (Option.bind (answer_read_4 m v x y ts ns) fun y45 => some (!y45.1, y45.2.1, y45.2.2)) fun (z26 : Bool × Str × (List Str)) => cond z26.1 (some (Sum.inl (false, z26.2.1, z26.2.2))) (answer_read_3_L1 m x y ns kk false z26.2.1 z26.2.2)) = some z ∧ (z = .inl (false, r, ts') ∨ z = .inr (r, ts')) ∧ r.length ≤ u.length ∧ tot ts' + r.length ≤ tot ts + u.length ∧ ts'.length + r.length ≤ ts.length + u.length := by
        intro v hv
        obtain ⟨ok, r, ts', g1, g2, g3, g4, g5⟩ := rd4_tot m v x y ts ns (by omega) (by omega) (by omega)
        rw [g1, Option.bind_some, Option.bind_some]
        cases ok with
        | false => exact ⟨_, r, ts', rfl, Or.inl rfl, by omega, by omega, by omega⟩
        | true =>
          have g3 := g3 rfl
          obtain ⟨z, r2, ts2, k1, k2, k3, k4, k5⟩ := ih false r ts' (by omega) (by omega) (by omega)
          exact ⟨z, r2, ts2, k1, k2, by omega, by omega, by omega⟩
      cases first with
      | true =>
        rw [Bool.not_true, lt_eq, cond_false]
        exact one r h2
      | false =>
        rw [Bool.not_false, lt_eq, cond_true]
        obtain ⟨ok2, r2, k1, k2, k3⟩ := rd1_tot [44, 32] r (by omega) (by decide) (by decide)
        rw [k1, Option.bind_some]
        cases ok2 with
        | false => exact ⟨_, r2, ts, rfl, Or.inl rfl, by omega, by omega, by omega⟩
        | true =>
          rw [Bool.not_true, lt_eq, cond_false]
          exact one r2 (by omega)
theorem rd3_tot (m : Nat) (x y : Int) (ns : List Int) (u : Str) (hm : u.length < m) (hu : u.length < 1000000000) :
    ∃ (ok : Bool) (r : Str) (ts' : List Str), answer_read_3 m u x y [] ns = some (ok, r, ts') ∧ r.length ≤ u.length ∧ tot ts' ≤ u.length ∧ ts'.length ≤ u.length := by
  unfold answer_read_3
  obtain ⟨ok, r, h1, h2, h3⟩ := rd1_tot [91] u (by omega) (by decide) (by decide)
  rw [h1, Option.bind_some]
  cases ok with
  | false => exact ⟨false, r, [], rfl, h2, by simp [tot], by simp⟩
  | true =>
    rw [Bool.not_true, cond_false]
    obtain ⟨z, r2, ts2, k1, k2, k3, k4, k5⟩ := l3_tot m x y ns m true r [] (by omega) (by omega) (by simp; omega)
    rw [k1, Option.bind_some]
    have e0 : tot ([] : List Str) = 0 := rfl
    simp only [List.length_nil] at k5
    rcases k2 with rfl | rfl
    · exact ⟨false, r2, ts2, rfl, by omega, by omega, by omega⟩
    · exact ⟨true, r2, ts2, rfl, by omega, by omega, by omega⟩
/-! ## Lists of numbers -/
theorem n3_ok (m : Nat) (x y : Int) (ts : List Str) (r : Str) : ∀ (l : List Int) (kk : Nat) (acc : List Int), ((l.map Lib.itoa).flatMap ([44, 32] ++ ·) ++ 93 :: r).length < 1000000000 → l.length < kk → (∀ n ∈ l, In64 n) → acc.length + l.length ≤ 1000000000 →
    answer_read_3_2_L1 m x y ts kk false ((l.map Lib.itoa).flatMap ([44, 32] ++ ·) ++ 93 :: r) acc = some (.inr (r, acc ++ l)) := by
  intro l
  induction l with
  | nil =>
    intro kk acc hl hk hm ha
    obtain ⟨k, rfl⟩ : ∃ k, kk = k + 1 := ⟨kk - 1, by simp at hk; omega⟩
    rw [answer_read_3_2_L1]
    have e0 : (([] : List Int).map Lib.itoa).flatMap ([44, 32] ++ ·) ++ 93 :: r = [93] ++ r := rfl
    rw [e0] at hl ⊢
    rw [rd1_t [93] r (by omega) (by decide), Option.bind_some, Bool.not_true, cond_false, List.append_nil]
  | cons t l ih =>
    intro kk acc hl hk hm ha
    obtain ⟨k, rfl⟩ : ∃ k, kk = k + 1 := ⟨kk - 1, by simp at hk; omega⟩
    have e : ((t :: l).map Lib.itoa).flatMap ([44, 32] ++ ·) ++ 93 :: r = 44 :: 32 :: (Lib.itoa t ++ ((l.map Lib.itoa).flatMap ([44, 32] ++ ·) ++ 93 :: r)) := by
      rw [List.map_cons, List.flatMap_cons]; simp
    rw [e] at hl ⊢
    simp only [List.length_cons] at hl hk ha
    have htm := hm t List.mem_cons_self
    have hl2 : ((l.map Lib.itoa).flatMap ([44, 32] ++ ·) ++ 93 :: r).length < 1000000000 := by rw [List.length_append] at hl; omega
    -- what comes behind a number stops it
    obtain ⟨c, q, hq, hc⟩ : ∃ c q, (l.map Lib.itoa).flatMap ([44, 32] ++ ·) ++ 93 :: r = c :: q ∧ stopB c = true := by
      cases l with
      | nil => exact ⟨93, r, rfl, rfl⟩
      | cons t2 l2 => exact ⟨44, _, by rw [List.map_cons, List.flatMap_cons]; rfl, rfl⟩
    have hl5 : ([44, 32] ++ (Lib.itoa t ++ ((l.map Lib.itoa).flatMap ([44, 32] ++ ·) ++ 93 :: r)) : Str).length < 100000000000 := by
      rw [List.length_append]; show 2 + _ < _; omega
    rw [answer_read_3_2_L1, rd1_f (a := 93) [] _ (by decide) (by simp only [List.length_cons]; omega) (by decide), Option.bind_some, Bool.not_false, cond_true, lt_eq, cond_true]
    rw [show answer_read_1 [44, 32] (44 :: 32 :: (Lib.itoa t ++ ((l.map Lib.itoa).flatMap ([44, 32] ++ ·) ++ 93 :: r))) = some (true, Lib.itoa t ++ ((l.map Lib.itoa).flatMap ([44, 32] ++ ·) ++ 93 :: r)) from rd1_t [44, 32] _ hl5 (by decide), Option.bind_some, Bool.not_true, lt_eq, cond_false]
    have h5 : answer_read_5 (Lib.itoa t ++ ((l.map Lib.itoa).flatMap ([44, 32] ++ ·) ++ 93 :: r)) x y ts acc = some (true, (l.map Lib.itoa).flatMap ([44, 32] ++ ·) ++ 93 :: r, acc ++ [t]) := by
      rw [hq] at hl2 ⊢
      exact rd5_ok htm hc q (by simp at hl2; omega) x y ts acc (by omega)
    rw [h5, Option.bind_some, Bool.not_true, Option.bind_some, cond_false, ih k (acc ++ [t]) hl2 (by omega) (fun q hq => hm q (List.mem_cons_of_mem _ hq)) (by simp; omega), List.append_assoc]
    rfl
theorem itoa_head {n : Int} (h : In64 n) : ∃ c q, Lib.itoa n = c :: q ∧ c ≠ 93 := by
  have hb := itoa_bytes h
  cases he : Lib.itoa n with
  | nil =>
    unfold Lib.itoa at he
    split at he
    · cases he
    · exact absurd he (dd_ne _)
  | cons c q =>
    refine ⟨c, q, rfl, fun e => ?_⟩
    subst e
    have := hb 93 (by rw [he]; exact List.mem_cons_self)
    rcases this with h | h
    · cases h
    · have : (93 : UInt8).toNat = 93 := rfl
      omega
theorem rd32_ok (m : Nat) (x y : Int) (ts : List Str) (r : Str) (l : List Int) (hl : (ls (l.map Lib.itoa) ++ r).length < 1000000000) (hk : l.length < m) (hm : ∀ n ∈ l, In64 n) :
    answer_read_3_2 m (ls (l.map Lib.itoa) ++ r) x y ts [] = some (true, r, l) := by
  unfold answer_read_3_2
  have e : ls (l.map Lib.itoa) ++ r = [91] ++ (jn [44, 32] (l.map Lib.itoa) ++ 93 :: r) := by unfold ls; simp
  rw [e] at hl ⊢
  have hl2 : (jn [44, 32] (l.map Lib.itoa) ++ 93 :: r).length < 1000000000 := by rw [List.length_append] at hl; omega
  rw [rd1_t [91] _ (by omega) (by decide), Option.bind_some, Bool.not_true, cond_false]
  obtain ⟨k, rfl⟩ : ∃ k, m = k + 1 := ⟨m - 1, by omega⟩
  have key : answer_read_3_2_L1 (k + 1) x y ts (k + 1) true (jn [44, 32] (l.map Lib.itoa) ++ 93 :: r) [] = some (.inr (r, l)) := by
    cases l with
    | nil =>
      rw [answer_read_3_2_L1]
      have hl4 : ([93] ++ r).length < 1000000000 := hl2
      rw [show answer_read_1 [93] (jn [44, 32] (([] : List Int).map Lib.itoa) ++ 93 :: r) = some (true, r) from rd1_t [93] r (by omega) (by decide), Option.bind_some, Bool.not_true, cond_false]
    | cons t l =>
      have e2 : jn [44, 32] ((t :: l).map Lib.itoa) ++ 93 :: r = Lib.itoa t ++ ((l.map Lib.itoa).flatMap ([44, 32] ++ ·) ++ 93 :: r) := by
        rw [List.map_cons]; unfold jn; rw [List.append_assoc]
      rw [e2] at hl2 ⊢
      have htm := hm t List.mem_cons_self
      have hl3 : ((l.map Lib.itoa).flatMap ([44, 32] ++ ·) ++ 93 :: r).length < 1000000000 := by rw [List.length_append] at hl2; omega
      simp only [List.length_cons] at hk
      obtain ⟨c0, q0, hq0, hc0⟩ := itoa_head htm
      have hf : answer_read_1 [93] (Lib.itoa t ++ ((l.map Lib.itoa).flatMap ([44, 32] ++ ·) ++ 93 :: r)) = some (false, Lib.itoa t ++ ((l.map Lib.itoa).flatMap ([44, 32] ++ ·) ++ 93 :: r)) := by
        rw [hq0] at hl2 ⊢
        exact rd1_f (a := 93) [] _ (fun e => hc0 e.symm) (show (c0 :: q0 ++ ((l.map Lib.itoa).flatMap ([44, 32] ++ ·) ++ 93 :: r) : Str).length < 100000000000 by omega) (by decide)
      obtain ⟨c, q, hq, hc⟩ : ∃ c q, (l.map Lib.itoa).flatMap ([44, 32] ++ ·) ++ 93 :: r = c :: q ∧ stopB c = true := by
        cases l with
        | nil => exact ⟨93, r, rfl, rfl⟩
        | cons t2 l2 => exact ⟨44, _, by rw [List.map_cons, List.flatMap_cons]; rfl, rfl⟩
      have h5 : answer_read_5 (Lib.itoa t ++ ((l.map Lib.itoa).flatMap ([44, 32] ++ ·) ++ 93 :: r)) x y ts [] = some (true, (l.map Lib.itoa).flatMap ([44, 32] ++ ·) ++ 93 :: r, [] ++ [t]) := by
        rw [hq] at hl3 ⊢
        exact rd5_ok htm hc q (by simp at hl3; omega) x y ts [] (by simp)
      rw [answer_read_3_2_L1, hf, Option.bind_some, Bool.not_false, cond_true, Bool.not_true, lt_eq, cond_false]
      rw [h5, Option.bind_some, Bool.not_true, Option.bind_some, cond_false, n3_ok (k + 1) x y ts r l k ([] ++ [t]) hl3 (by omega) (fun q hq => hm q (List.mem_cons_of_mem _ hq)) (by
        have hfl : ((l.map Lib.itoa).flatMap ([44, 32] ++ ·)).length = tot (l.map Lib.itoa) + l.length * 2 := by rw [fm_len, List.length_map]; rfl
        rw [List.length_append, hfl] at hl3
        show 1 + l.length ≤ _
        omega)]
      rfl
  rw [key, Option.bind_some]
  rfl
theorem n3_tot (m : Nat) (x y : Int) (ts : List Str) : ∀ (kk : Nat) (first : Bool) (u : Str) (ns : List Int), u.length < kk → ns.length + u.length < 1000000000 → (∀ n ∈ ns, In64 n) →
    ∃ (z : Sum (Bool × Str × List Int) (Str × List Int)) (r : Str) (ns' : List Int), answer_read_3_2_L1 m x y ts kk first u ns = some z ∧ (z = .inl (false, r, ns') ∨ z = .inr (r, ns')) ∧ r.length ≤ u.length ∧ ns'.length + r.length ≤ ns.length + u.length + 1 ∧ ∀ n ∈ ns', In64 n := by
  intro kk
  induction kk with
  | zero => intro first u ns h; omega
  | succ kk ih =>
    intro first u ns hk hts hin
    rw [answer_read_3_2_L1]
    obtain ⟨ok, r, h1, h2, h3⟩ := rd1_tot [93] u (by omega) (by decide) (by decide)
    rw [h1, Option.bind_some]
    cases ok with
    | true => exact ⟨_, r, ns, rfl, Or.inr rfl, h2, by omega, hin⟩
    | false =>
      rw [Bool.not_false, cond_true]
      have one : ∀ v : Str, v.length ≤ u.length → ∃ (z : Sum (Bool × Str × List Int) (Str × List Int)) (r : Str) (ns' : List Int),
          (Option.bind (Option.bind (answer_read_5 v x y ts ns) fun y45 => some (!y45.1, y45.2.1, y45.2.2)) fun (z26 : Bool × Str × (List Int)) => cond z26.1 (some (Sum.inl (false, z26.2.1, z26.2.2))) (answer_read_3_2_L1 m x y ts kk false z26.2.1 z26.2.2)) = some z ∧ (z = .inl (false, r, ns') ∨ z = .inr (r, ns')) ∧ r.length ≤ u.length ∧ ns'.length + r.length ≤ ns.length + u.length + 1 ∧ ∀ n ∈ ns', In64 n := by
        intro v hv
        obtain ⟨n, ok, r, g1, g2, g3, g4⟩ := rd5_tot v (by omega) x y ts ns (by omega)
        have hin2 : ∀ q ∈ ns ++ [n], In64 q := fun q hq => by
          rcases List.mem_append.1 hq with h | h
          · exact hin q h
          · have : q = n := by simpa using h
            rw [this]; exact g2
        rw [g1, Option.bind_some, Option.bind_some]
        cases ok with
        | false => exact ⟨_, r, _, rfl, Or.inl rfl, by omega, by simp; omega, hin2⟩
        | true =>
          have g4 := g4 rfl
          obtain ⟨z, r2, ns2, k1, k2, k3, k4, k5⟩ := ih false r (ns ++ [n]) (by omega) (by simp; omega) hin2
          exact ⟨z, r2, ns2, k1, k2, by omega, by simp at k4; omega, k5⟩
      cases first with
      | true =>
        rw [Bool.not_true, lt_eq, cond_false]
        exact one r h2
      | false =>
        rw [Bool.not_false, lt_eq, cond_true]
        obtain ⟨ok2, r2, k1, k2, k3⟩ := rd1_tot [44, 32] r (by omega) (by decide) (by decide)
        rw [k1, Option.bind_some]
        cases ok2 with
        | false => exact ⟨_, r2, ns, rfl, Or.inl rfl, by omega, by omega, hin⟩
        | true =>
          rw [Bool.not_true, lt_eq, cond_false]
          exact one r2 (by omega)
theorem rd32_tot (m : Nat) (x y : Int) (ts : List Str) (u : Str) (hm : u.length < m) (hu : u.length < 1000000000) :
    ∃ (ok : Bool) (r : Str) (ns' : List Int), answer_read_3_2 m u x y ts [] = some (ok, r, ns') ∧ r.length ≤ u.length ∧ ns'.length ≤ u.length + 1 ∧ ∀ n ∈ ns', In64 n := by
  unfold answer_read_3_2
  obtain ⟨ok, r, h1, h2, h3⟩ := rd1_tot [91] u (by omega) (by decide) (by decide)
  rw [h1, Option.bind_some]
  cases ok with
  | false => exact ⟨false, r, [], rfl, h2, by simp, fun n hn => by cases hn⟩
  | true =>
    rw [Bool.not_true, cond_false]
    obtain ⟨z, r2, ns2, k1, k2, k3, k4, k5⟩ := n3_tot m x y ts m true r [] (by omega) (by simp; omega) (fun n hn => by cases hn)
    rw [k1, Option.bind_some]
    simp only [List.length_nil] at k4
    rcases k2 with rfl | rfl
    · exact ⟨false, r2, ns2, rfl, by omega, by omega, k5⟩
    · exact ⟨true, r2, ns2, rfl, by omega, by omega, k5⟩
/-! ## An answer -/
theorem read_ok (m : Nat) (a : TAnswer) (h : In m a) (hl : (shown a).length < 1000000000) (hm : 1 < m) : answer_read m (shown a) = some (a, true) := by
  unfold shown at hl ⊢
  simp only [List.length_append, List.length_cons, List.length_nil] at hl
  unfold answer_read
  have r1 : answer_read_2 (Lib.itoa a.Err ++ ([32] ++ (Lib.itoa a.Num ++ ([32] ++ (ls (a.Texts.map qt) ++ ([32] ++ ls (a.Numbers.map Lib.itoa))))))) = some (a.Err, true, [32] ++ (Lib.itoa a.Num ++ ([32] ++ (ls (a.Texts.map qt) ++ ([32] ++ ls (a.Numbers.map Lib.itoa)))))) :=
    rd2_ok h.err (c := 32) rfl (Lib.itoa a.Num ++ ([32] ++ (ls (a.Texts.map qt) ++ ([32] ++ ls (a.Numbers.map Lib.itoa))))) (by simp only [List.length_append, List.length_cons, List.length_nil]; omega)
  have r2 : answer_read_2 (Lib.itoa a.Num ++ ([32] ++ (ls (a.Texts.map qt) ++ ([32] ++ ls (a.Numbers.map Lib.itoa))))) = some (a.Num, true, [32] ++ (ls (a.Texts.map qt) ++ ([32] ++ ls (a.Numbers.map Lib.itoa)))) :=
    rd2_ok h.num (c := 32) rfl (ls (a.Texts.map qt) ++ ([32] ++ ls (a.Numbers.map Lib.itoa))) (by simp only [List.length_append, List.length_cons, List.length_nil]; omega)
  rw [r1, Option.bind_some, Bool.not_true, lt_eq, cond_false, rd1_t [32] _ (by simp only [List.length_append, List.length_cons, List.length_nil]; omega) (by decide), Option.bind_some, Bool.not_true, Option.bind_some, cond_false]
  rw [r2, Option.bind_some, Bool.not_true, lt_eq, cond_false, rd1_t [32] _ (by simp only [List.length_append, List.length_cons, List.length_nil]; omega) (by decide), Option.bind_some, Bool.not_true, Option.bind_some, cond_false]
  rw [rd3_ok m _ _ [] _ a.Texts (by simp only [List.length_append, List.length_cons, List.length_nil]; omega) h.lenT h.txt hm, Option.bind_some, Bool.not_true, lt_eq, cond_false, rd1_t [32] _ (by simp only [List.length_append, List.length_cons, List.length_nil]; omega) (by decide), Option.bind_some, Bool.not_true, Option.bind_some, cond_false]
  have r4 := rd32_ok m a.Err a.Num a.Texts [] a.Numbers (by simp only [List.length_append, List.length_nil]; omega) h.lenN h.nums
  rw [List.append_nil] at r4
  rw [r4, Option.bind_some, cond_true]
  rfl
theorem read_tot (m : Nat) (s : Str) (hs : s.length < 1000000) (hm : s.length + 1 < m) : ∃ (b : TAnswer) (ok : Bool), answer_read m s = some (b, ok) ∧ In m b := by
  have i0 : In64 0 := ⟨by decide, by decide⟩
  have t0 : tot ([] : List Str) = 0 := rfl
  unfold answer_read
  obtain ⟨n1, ok1, r1, a1, a2, a3, a4⟩ := rd2_tot s (by omega)
  rw [a1, Option.bind_some]
  have hx : ∃ (b : Bool) (r : Str), (lt (!ok1) fun x40 => cond x40 (some (true, r1)) (Option.bind (answer_read_1 [32] r1) fun y50 => some (!y50.1, y50.2))) = some (b, r) ∧ r.length ≤ s.length := by
    rw [lt_eq]
    cases ok1 with
    | false => exact ⟨true, r1, rfl, a3⟩
    | true =>
      obtain ⟨ok, r, h1, h2, h3⟩ := rd1_tot [32] r1 (by omega) (by decide) (by decide)
      rw [Bool.not_true, cond_false, h1]
      exact ⟨_, r, rfl, by omega⟩
  obtain ⟨b1, q1, b2, b3⟩ := hx
  rw [b2, Option.bind_some]
  have mk0 : ∀ (e n : Int) (ts : List Str), In64 e → In64 n → ts.length ≤ s.length → tot ts ≤ s.length → In m (TAnswer.mk e n ts ([] : List Int)) := fun e n ts he hn h1 h2 => ⟨he, hn, fun n hn => (by cases hn), by show ts.length < m; omega, by show 0 < m; omega, fun t ht => by
    have : t.length ≤ tot ts := by
      have ht' : t ∈ ts := ht
      clear ht h1 h2
      induction ts with
      | nil => cases ht'
      | cons x l ih =>
        rw [tot_cons]
        rcases List.mem_cons.1 ht' with rfl | h
        · omega
        · have := ih h; omega
    omega, by show tot ts < _; omega⟩
  cases b1 with
  | true => exact ⟨_, false, rfl, mk0 0 0 [] i0 i0 (Nat.zero_le _) (Nat.zero_le _)⟩
  | false =>
    rw [cond_false]
    obtain ⟨n2, ok2, r2, c1, c2, c3, c4⟩ := rd2_tot q1 (by omega)
    rw [c1, Option.bind_some]
    have hx : ∃ (b : Bool) (r : Str), (lt (!ok2) fun x40 => cond x40 (some (true, r2)) (Option.bind (answer_read_1 [32] r2) fun y50 => some (!y50.1, y50.2))) = some (b, r) ∧ r.length ≤ s.length := by
      rw [lt_eq]
      cases ok2 with
      | false => exact ⟨true, r2, rfl, by omega⟩
      | true =>
        obtain ⟨ok, r, h1, h2, h3⟩ := rd1_tot [32] r2 (by omega) (by decide) (by decide)
        rw [Bool.not_true, cond_false, h1]
        exact ⟨_, r, rfl, by omega⟩
    obtain ⟨d1, q2, d2, d3⟩ := hx
    rw [d2, Option.bind_some]
    cases d1 with
    | true => exact ⟨_, false, rfl, mk0 _ _ [] a2 c2 (Nat.zero_le _) (Nat.zero_le _)⟩
    | false =>
      rw [cond_false]
      obtain ⟨ok3, r3, ts, e1, e2, e3, e4⟩ := rd3_tot m n1 n2 [] q2 (by omega) (by omega)
      rw [e1, Option.bind_some]
      have hx : ∃ (b : Bool) (r : Str), (lt (!ok3) fun x40 => cond x40 (some (true, r3)) (Option.bind (answer_read_1 [32] r3) fun y50 => some (!y50.1, y50.2))) = some (b, r) ∧ r.length ≤ s.length := by
        rw [lt_eq]
        cases ok3 with
        | false => exact ⟨true, r3, rfl, by omega⟩
        | true =>
          obtain ⟨ok, r, h1, h2, h3⟩ := rd1_tot [32] r3 (by omega) (by decide) (by decide)
          rw [Bool.not_true, cond_false, h1]
          exact ⟨_, r, rfl, by omega⟩
      obtain ⟨f1, q3, f2, f3⟩ := hx
      rw [f2, Option.bind_some]
      cases f1 with
      | true => exact ⟨_, false, rfl, mk0 _ _ ts a2 c2 (by omega) (by omega)⟩
      | false =>
        rw [cond_false]
        obtain ⟨ok4, r4, ns, g1, g2, g3, g4⟩ := rd32_tot m n1 n2 ts q3 (by omega) (by omega)
        have base := mk0 n1 n2 ts a2 c2 (by omega) (by omega)
        have fin : In m (TAnswer.mk n1 n2 ts ns) := ⟨a2, c2, g4, base.lenT, by show ns.length < m; omega, base.txt, base.tot⟩
        rw [g1, Option.bind_some]
        cases ok4 with
        | true => exact ⟨_, _, rfl, fin⟩
        | false => exact ⟨_, _, rfl, fin⟩
/-- What the program reads of a line: an answer that is shown so, if there is one. -/
theorem pread (m : Nat) (hm : m ≤ 1000000) (s : Str) (hm2 : s.length + 70 < m) :
    ∃ (b : TAnswer) (e : Int), answer_ReadLine m s = some (b, e) ∧ ((e = 0 ∧ In m b ∧ okA b = true ∧ shown b = s) ∨ (e = 12 ∧ b = TAnswer.mk 0 0 [] [] ∧ ∀ a, In m a → okA a = true → shown a ≠ s) ∨ (e = 28 ∧ b = TAnswer.mk 0 0 [] [] ∧ 90000 < s.length)) := by
  unfold answer_ReadLine
  by_cases h9 : 90000 < s.length
  · rw [show decide ((90000 : Int) < ln s) = true from decide_eq_true (by unfold ln; omega), cond_true]
    exact ⟨_, 28, rfl, Or.inr (Or.inr ⟨rfl, rfl, h9⟩)⟩
  · obtain ⟨b, ok, h1, h2⟩ := read_tot m s (by omega) (by omega)
    have no : ∀ a, In m a → okA a = true → shown a = s → b = a ∧ ok = true := by
      intro a ha ho hs
      have := read_ok m a ha (by rw [hs]; omega) (by omega)
      rw [hs, h1] at this
      have := Option.some.inj this
      exact Prod.mk.inj this
    rw [show decide ((90000 : Int) < ln s) = false from decide_eq_false (by unfold ln; omega), cond_false, h1, Option.bind_some]
    cases ok with
    | false => exact ⟨_, 12, rfl, Or.inr (Or.inl ⟨rfl, rfl, fun a ha ho hs => by have := (no a ha ho hs).2; cases this⟩)⟩
    | true =>
      rw [Bool.not_true, cond_false, line_eq m hm (by omega) b h2, Option.bind_some]
      cases hok : okA b with
      | false => exact ⟨_, 12, rfl, Or.inr (Or.inl ⟨rfl, rfl, fun a ha ho hs => by have := (no a ha ho hs).1; rw [this, ho] at hok; cases hok⟩)⟩
      | true =>
        rw [cond_true]
        by_cases hsb : shown b = s
        · refine ⟨b, 0, ?_, Or.inl ⟨rfl, h2, hok, hsb⟩⟩
          show (cond (cond ((0 : Int) != 0) true (!(shown b == s))) _ _) = _
          rw [beq_iff_eq.2 hsb]; rfl
        · refine ⟨TAnswer.mk 0 0 [] [], 12, ?_, Or.inr (Or.inl ⟨rfl, rfl, fun a ha ho hs => hsb (by rw [(no a ha ho hs).1]; exact hs)⟩)⟩
          show (cond (cond ((0 : Int) != 0) true (!(shown b == s))) _ _) = _
          rw [beq_eq_false_iff_ne.2 hsb]; rfl
end Go.Proofs.YtipafpkdkhnjmaaGreatDoor

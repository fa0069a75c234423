/-
  Answers as text: the pieces of the program's reader. No program in sight.
-/
import Derived.Test.YtipafpkdkhnjmaaGreatDoorQ2
import Derived.Lib.AtoiAllCases
set_option linter.unusedVariables false
set_option maxRecDepth 100000
namespace Go.Proofs.YtipafpkdkhnjmaaGreatDoor
open Go Go.V Go.RowKit
/-! ## What a text begins with -/
theorem hp_eq (s p : Str) (hs : s.length < 100000000000) (hp : p.length < 1000) : stringslite_HasPrefix s p = some (p.isPrefixOf s) := by
  unfold stringslite_HasPrefix
  have hls : ln s = (s.length : Int) := rfl
  have hlp : ln p = (p.length : Int) := rfl
  have hsub : sub s 0 (ln p) = s.take p.length := by unfold sub ln; simp
  rw [hsub, hlp, hls]
  cases hb : p.isPrefixOf s with
  | true =>
    have h := List.isPrefixOf_iff_prefix.1 hb
    have hle := h.length_le
    have he := List.prefix_iff_eq_take.1 h
    rw [decide_eq_true (show (p.length : Int) ≤ (s.length : Int) by omega), chk_pos (fun _ => ⟨by omega, by omega⟩), lt_eq, cond_true, ← he, beq_self_eq_true]
  | false =>
    by_cases hle : p.length ≤ s.length
    · rw [decide_eq_true (show (p.length : Int) ≤ (s.length : Int) by omega), chk_pos (fun _ => ⟨by omega, by omega⟩), lt_eq, cond_true]
      have : (s.take p.length == p) = false := by
        rw [beq_eq_false_iff_ne]
        intro e
        have := List.isPrefixOf_iff_prefix.2 (List.prefix_iff_eq_take.2 e.symm)
        rw [hb] at this; cases this
      rw [this]
    · rw [decide_eq_false (show ¬ (p.length : Int) ≤ (s.length : Int) by omega), chk_pos (fun h => by cases h), lt_eq, cond_false]
theorem sub_end (s : Str) (i : Nat) (h : i ≤ s.length) : sub s (i : Int) (ln s) = s.drop i := by
  unfold sub ln
  rw [Int.toNat_natCast, Int.toNat_natCast, List.take_of_length_le (by rw [List.length_drop]; omega)]
theorem rd1 (what u : Str) (hu : u.length < 100000000000) (hw : what.length < 1000) : answer_read_1 what u = some (cond (what.isPrefixOf u) (true, u.drop what.length) (false, u)) := by
  unfold answer_read_1 strings_CutPrefix stringslite_CutPrefix
  rw [hp_eq u what hu hw, Option.bind_some]
  cases hb : what.isPrefixOf u with
  | false => rfl
  | true =>
    have hle := (List.isPrefixOf_iff_prefix.1 hb).length_le
    rw [Bool.not_true, cond_false, chk_pos ⟨by unfold ln; omega, by unfold ln; omega⟩]
    show some (true, sub u ((what.length : Nat) : Int) (ln u)) = _
    rw [sub_end u what.length hle]; rfl
theorem pre_app (w r : Str) : w.isPrefixOf (w ++ r) = true := List.isPrefixOf_iff_prefix.2 (List.prefix_append w r)
theorem rd1_t (w r : Str) (hr : (w ++ r).length < 100000000000) (hw : w.length < 1000) : answer_read_1 w (w ++ r) = some (true, r) := by
  rw [rd1 w _ hr hw, pre_app, cond_true, List.drop_left]
theorem pre_ne {a b : UInt8} (w r : Str) (h : a ≠ b) : (a :: w).isPrefixOf (b :: r) = false := by
  rw [List.isPrefixOf, beq_eq_false_iff_ne.2 h]; rfl
theorem rd1_f {a b : UInt8} (w r : Str) (h : a ≠ b) (hr : (b :: r).length < 100000000000) (hw : (a :: w).length < 1000) : answer_read_1 (a :: w) (b :: r) = some (false, b :: r) := by
  rw [rd1 _ _ hr hw, pre_ne w r h, cond_false]
/-- Whatever is asked for, what is left is no longer. -/
theorem rd1_tot (what u : Str) (hu : u.length < 100000000000) (hw : what.length < 1000) (hw0 : 0 < what.length) : ∃ (ok : Bool) (r : Str), answer_read_1 what u = some (ok, r) ∧ r.length ≤ u.length ∧ (ok = true → r.length < u.length) := by
  rw [rd1 what u hu hw]
  cases hb : what.isPrefixOf u with
  | false => exact ⟨false, u, rfl, Nat.le_refl _, fun h => by cases h⟩
  | true =>
    have hle := (List.isPrefixOf_iff_prefix.1 hb).length_le
    exact ⟨true, u.drop what.length, rfl, by rw [List.length_drop]; omega, fun _ => by rw [List.length_drop]; omega⟩
/-! ## Numbers -/
def stopB (c : UInt8) : Bool := ([32, 44, 93] : Str).contains c
theorem dd_dig : ∀ (k u : Nat), u < 10 ^ (k + 1) → ∀ b ∈ Lib.decDigits u, 48 ≤ b.toNat ∧ b.toNat ≤ 57
  | 0, u, h, b, hb => by
    have h : u < 10 := by simpa using h
    rw [dd_small h] at hb
    have : b = UInt8.ofNat (48 + u) := by simpa using hb
    subst this
    have : (UInt8.ofNat (48 + u)).toNat = 48 + u := by simp; omega
    omega
  | k + 1, u, h, b, hb => by
    by_cases hu : u < 10
    · exact dd_dig 0 u (by simpa using hu) b hb
    · rw [dd_big hu] at hb
      rcases List.mem_append.1 hb with hb | hb
      · exact dd_dig k (u / 10) (by rw [Nat.pow_succ] at h; omega) b hb
      · have : b = UInt8.ofNat (48 + u % 10) := by simpa using hb
        subst this
        have : (UInt8.ofNat (48 + u % 10)).toNat = 48 + u % 10 := by simp; omega
        omega
theorem dd_ne (u : Nat) : Lib.decDigits u ≠ [] := by
  by_cases hu : u < 10
  · rw [dd_small hu]; simp
  · rw [dd_big hu]; simp
theorem itoa_bytes {n : Int} (h : In64 n) : ∀ b ∈ Lib.itoa n, b = 45 ∨ (48 ≤ b.toNat ∧ b.toNat ≤ 57) := by
  obtain ⟨h1, h2⟩ := h
  intro b hb
  unfold Lib.itoa at hb
  split at hb
  · rcases List.mem_cons.1 hb with rfl | hb
    · exact Or.inl rfl
    · exact Or.inr (dd_dig 18 _ (by show _ < 10000000000000000000; omega) b hb)
  · exact Or.inr (dd_dig 18 _ (by show _ < 10000000000000000000; omega) b hb)
theorem stop_dig {b : UInt8} (h : b = 45 ∨ (48 ≤ b.toNat ∧ b.toNat ≤ 57)) : stopB b = false := by
  cases hc : stopB b with
  | false => rfl
  | true =>
    unfold stopB at hc
    simp only [List.contains_eq_mem, List.mem_cons, List.not_mem_nil, or_false, decide_eq_true_eq] at hc
    rcases hc with rfl | rfl | rfl <;> rcases h with h | h <;> simp at h
theorem idx_hit {p r : Str} {c : UInt8} (hp : ∀ b ∈ p, stopB b = false) (hc : stopB c = true) : Lib.indexAny (p ++ c :: r) [32, 44, 93] = (p.length : Int) := by
  refine Lib.indexAny_hit (x := c) (fun j b hj hb => ?_) ?_ hc
  · rw [List.getElem?_append_left hj] at hb
    exact hp b (List.mem_of_getElem? hb)
  · rw [List.getElem?_append_right (Nat.le_refl _), Nat.sub_self]; rfl
theorem idx_lt (cs : Str) : ∀ u : Str, Lib.indexAny u cs < u.length ∨ Lib.indexAny u cs = -1
  | [] => Or.inr rfl
  | b :: l => by
    have h := idx_lt cs l
    have hg := Lib.indexAny_ge cs l
    unfold Lib.indexAny
    split
    · exact Or.inl (by simp only [List.length_cons]; omega)
    · split
      · exact Or.inr rfl
      · rename_i h2
        rcases h with h | h
        · exact Or.inl (by simp only [List.length_cons]; omega)
        · rw [h] at h2; simp at h2
theorem parse_app : ∀ (l r : Str) (acc : Nat), Lib.parseUint10 acc (l ++ r) = match Lib.parseUint10 acc l with
    | .ok v => Lib.parseUint10 v r
    | Lib.NumEnd.syntax => Lib.NumEnd.syntax
    | .range => .range
  | [], r, acc => rfl
  | c :: l, r, acc => by
    rw [List.cons_append, Lib.parseUint10, Lib.parseUint10]
    by_cases h1 : 48 ≤ c.toNat ∧ c.toNat ≤ 57
    · rw [if_pos h1, if_pos h1]
      by_cases h2 : 1844674407370955162 ≤ acc
      · rw [if_pos h2, if_pos h2]
      · rw [if_neg h2, if_neg h2]
        by_cases h3 : 18446744073709551616 ≤ acc * 10 + (c.toNat - 48)
        · rw [if_pos h3, if_pos h3]
        · rw [if_neg h3, if_neg h3]
          exact parse_app l r _
    · rw [if_neg h1, if_neg h1]
theorem parse_dd : ∀ (k u : Nat), u < 10 ^ (k + 1) → u < 18446744073709551616 → Lib.parseUint10 0 (Lib.decDigits u) = .ok u
  | k, u, h, hu => by
    have one : ∀ acc d : Nat, d < 10 → acc < 1844674407370955162 → acc * 10 + d < 18446744073709551616 → Lib.parseUint10 acc [UInt8.ofNat (48 + d)] = .ok (acc * 10 + d) := by
      intro acc d hd h1 h2
      have hb : (UInt8.ofNat (48 + d)).toNat = 48 + d := by simp; omega
      rw [Lib.parseUint10, hb, if_pos ⟨by omega, by omega⟩, if_neg (by omega), show 48 + d - 48 = d from by omega, if_neg (by omega)]
      rfl
    by_cases h10 : u < 10
    · rw [dd_small h10, one 0 u h10 (by omega) (by omega)]; simp
    · cases k with
      | zero => exact absurd (by simpa using h) h10
      | succ k =>
        rw [dd_big h10, parse_app, parse_dd k (u / 10) (by rw [Nat.pow_succ] at h; omega) (by omega)]
        show Lib.parseUint10 (u / 10) _ = _
        rw [one (u / 10) (u % 10) (by omega) (by omega) (by omega), show u / 10 * 10 + u % 10 = u from by omega]
theorem atoi_it {n : Int} (h : In64 n) : atoiV (Lib.itoa n) = (n, true) := by
  obtain ⟨h1, h2⟩ := h
  unfold atoiV Lib.itoa
  by_cases hn : n < 0
  · rw [if_pos hn]
    have hp : Lib.parseMag (Lib.decDigits n.natAbs) = .ok n.natAbs := by unfold Lib.parseMag; rw [if_neg (dd_ne _), parse_dd 18 _ (by show _ < 10000000000000000000; omega) (by omega)]
    have e : Lib.atoiAll (45 :: Lib.decDigits n.natAbs) = .ok (-((n.natAbs : Nat) : Int)) := by
      rw [Lib.atoiAll]
      try dsimp only
      rw [if_pos (show (45 : UInt8).toNat = 43 ∨ (45 : UInt8).toNat = 45 from Or.inr rfl), hp]
      dsimp only
      rw [if_neg (fun h => h.1 rfl), if_neg (fun h => by omega), if_pos (show (45 : UInt8).toNat = 45 from rfl)]
    rw [e]
    show (-((n.natAbs : Nat) : Int), true) = _
    rw [show -((n.natAbs : Nat) : Int) = n from by omega]
  · rw [if_neg hn]
    have hd := dd_dig 18 n.toNat (by show _ < 10000000000000000000; omega)
    have hp := parse_dd 18 n.toNat (by show _ < 10000000000000000000; omega) (by omega)
    have hne := dd_ne n.toNat
    generalize Lib.decDigits n.toNat = D at hd hp hne
    cases D with
    | nil => exact absurd rfl hne
    | cons c r =>
      have hc := hd c List.mem_cons_self
      unfold Lib.atoiAll Lib.parseMag
      have e1 : ¬ (c.toNat = 43 ∨ c.toNat = 45) := by omega
      have e2 : ¬ (c.toNat = 45) := by omega
      simp only [if_neg e1]
      rw [if_neg (by simp), hp]
      simp only [e2]
      rw [if_neg (by omega), if_neg (by simp)]
      show (((n.toNat : Nat) : Int), true) = _
      rw [show ((n.toNat : Nat) : Int) = n from by omega]
theorem atoi_in (s : Str) : In64 (atoiV s).1 := by
  unfold atoiV
  cases h : Lib.atoiAll s with
  | ok v => exact Lib.atoiAll_bounds h
  | range => exact Lib.atoiSat_bounds s
  | _ => show In64 0; exact ⟨by decide, by decide⟩
theorem rd2_ok {n : Int} (h : In64 n) {c : UInt8} (hc : stopB c = true) (r : Str) (hr : r.length < 1000000000) : answer_read_2 (Lib.itoa n ++ c :: r) = some (n, true, c :: r) := by
  have hl := itoa_len h
  have hlen : (Lib.itoa n ++ c :: r).length = (Lib.itoa n).length + r.length + 1 := by simp; omega
  unfold answer_read_2 x_strings_IndexAny x_Atoi
  rw [chk_pos ⟨rfl, by omega⟩, idx_hit (fun b hb => stop_dig (itoa_bytes h b hb)) hc, Option.bind_some, show decide (((Lib.itoa n).length : Int) < 0) = false from decide_eq_false (by omega), cond_false, chk_pos ⟨by omega, by unfold ln; omega⟩]
  have hs : sub (Lib.itoa n ++ c :: r) 0 ((Lib.itoa n).length : Int) = Lib.itoa n := by unfold sub; simp
  rw [hs, chk_pos (by omega), atoi_it h, Option.bind_some, cond_true, sub_end _ _ (by omega), List.drop_left]
theorem rd2_tot (u : Str) (hu : u.length < 1000000000) : ∃ (n : Int) (ok : Bool) (r : Str), answer_read_2 u = some (n, ok, r) ∧ In64 n ∧ r.length ≤ u.length ∧ (ok = true → r.length < u.length) := by
  unfold answer_read_2 x_strings_IndexAny x_Atoi
  rw [chk_pos ⟨rfl, by omega⟩, Option.bind_some]
  have hg := Lib.indexAny_ge [32, 44, 93] u
  have hlt := idx_lt [32, 44, 93] u
  generalize Lib.indexAny u [32, 44, 93] = q at hg hlt
  by_cases hq : q < 0
  · rw [decide_eq_true hq, cond_true]
    exact ⟨0, false, u, rfl, ⟨by decide, by decide⟩, Nat.le_refl _, fun h => by cases h⟩
  · obtain ⟨k, rfl⟩ : ∃ k : Nat, q = (k : Int) := ⟨q.toNat, by omega⟩
    have hk : k < u.length := by rcases hlt with h | h <;> omega
    have hsl : (sub u 0 (k : Int)).length = k := by unfold sub; rw [List.length_take, List.length_drop]; simp; omega
    rw [decide_eq_false hq, cond_false, chk_pos ⟨by omega, by unfold ln; omega⟩, chk_pos (by omega), Option.bind_some, sub_end u k (by omega)]
    have hin := atoi_in (sub u 0 (k : Int))
    cases hok : (atoiV (sub u 0 (k : Int))).2 with
    | false => exact ⟨_, false, _, rfl, hin, by rw [List.length_drop]; omega, fun h => by cases h⟩
    | true =>
      refine ⟨_, true, _, rfl, hin, by rw [List.length_drop]; omega, fun _ => ?_⟩
      have : 0 < k := by
        rcases Nat.eq_zero_or_pos k with h | h
        · subst h
          have : sub u 0 ((0 : Nat) : Int) = [] := List.length_eq_zero_iff.1 hsl
          rw [this] at hok; cases hok
        · exact h
      rw [List.length_drop]; omega
/-! ## Texts in quotes -/
theorem bat_drop {s : Str} {i : Nat} {x : UInt8} {r : Str} (h : s.drop i = x :: r) : i < s.length ∧ bat s (i : Int) = ((x.toNat : Nat) : Int) ∧ s.drop (i + 1) = r := by
  have hl : i < s.length := by
    rcases Nat.lt_or_ge i s.length with h1 | h1
    · exact h1
    · rw [List.drop_eq_nil_of_le h1] at h; cases h
  rw [List.drop_eq_getElem_cons hl] at h
  injection h with h1 h2
  exact ⟨hl, by rw [bat_nat s i hl, h1], h2⟩
theorem hex_back : ((List.range 16).all fun d => answer_hex ((hexD d).toNat : Int) == (d : Int)) = true := by kernel_rfl
theorem hex_or : ((List.range 256).all fun n => wu8 (ibit .or .i64 (w64 (((n / 16 : Nat) : Int) * 2 ^ 4)) ((n % 16 : Nat) : Int)) == (n : Int)) = true := by kernel_rfl
theorem app_len {α β : Type} (x : List α) (y : List β) (hx : x.length ≤ 100000000000) (hy : y.length ≤ 1000) : ln x + ln y ≤ 1099511627776 := by unfold ln; omega
theorem hp2 (s p : Str) (hs : s.length < 100000000000) (hp : p.length < 1000) : strings_HasPrefix s p = some (p.isPrefixOf s) := by
  unfold strings_HasPrefix; rw [hp_eq s p hs hp]; rfl
theorem uq_L1 (m : Nat) (s : Str) (hs : s.length < 1000000000) (r : Str) : ∀ (t : Str) (kk i : Nat) (acc : Str), s.drop i = chs t ++ 34 :: r → t.length < kk → acc.length ≤ i → answer_unquote_L1 m s kk (ofB acc) (i : Int) = some (.inl (acc ++ t, ((i + (chs t).length + 1 : Nat) : Int))) := by
  intro t
  induction t with
  | nil =>
    intro kk i acc h hk ha
    obtain ⟨k, rfl⟩ : ∃ k, kk = k + 1 := ⟨kk - 1, by simp at hk; omega⟩
    obtain ⟨h1, h2, h3⟩ := bat_drop (x := 34) (r := r) h
    rw [answer_unquote_L1, lt_dec h1, cond_true, chk_ix h1, h2, show ((((34 : UInt8).toNat : Nat) : Int) == 34) = true from rfl, cond_true, Option.bind_some]
    unfold sumK
    dsimp only
    rw [toB_ofB, w64_ix (by omega), List.append_nil]
    rfl
  | cons b t ih =>
    intro kk i acc h hk ha
    obtain ⟨k, rfl⟩ : ∃ k, kk = k + 1 := ⟨kk - 1, by simp at hk; omega⟩
    rw [chs_cons, List.append_assoc] at h
    have hbl := b.toNat_lt
    have fin : ∀ (j : Nat) (a' : List Int), s.drop (j + 1) = chs t ++ 34 :: r → j + 1 = i + (ch b).length → a' = ofB (acc ++ [b]) → i ≤ j → j < 1000000000 →
        answer_unquote_L1 m s k a' (w64 ((j : Int) + 1)) = some (.inl (acc ++ b :: t, ((i + (chs (b :: t)).length + 1 : Nat) : Int))) := by
      intro j a' hj hj2 ha2 hij hjb
      rw [w64_ix (by omega), ha2, ih k (j + 1) (acc ++ [b]) hj (by simp at hk; omega) (by simp; omega), List.append_assoc, chs_cons, List.length_append, hj2, Nat.add_assoc i]
      rfl
    rw [answer_unquote_L1]
    by_cases h34 : b.toNat = 34 ∨ b.toNat = 92
    · have hch : ch b = [92, b] := by unfold ch; rw [if_pos h34]
      rw [hch] at h fin
      obtain ⟨h1, h2, h3⟩ := bat_drop (x := 92) (r := b :: (chs t ++ 34 :: r)) h
      obtain ⟨g1, g2, g3⟩ := bat_drop h3
      have hb1 : (92 :: b :: (chs t ++ 34 :: r) : Str).length < 100000000000 := by
        have := congrArg List.length h
        rw [List.length_drop] at this
        have e : ([92, b] ++ (chs t ++ 34 :: r) : Str).length = (92 :: b :: (chs t ++ 34 :: r) : Str).length := rfl
        omega
      have hd : sub s (i : Int) (ln s) = 92 :: b :: (chs t ++ 34 :: r) := by rw [sub_end s i (by omega)]; exact h
      have hne1 : (110 : UInt8) ≠ b := fun e => by subst e; simp at h34
      have hne2 : (120 : UInt8) ≠ b := fun e => by subst e; simp at h34
      rw [lt_dec h1, cond_true, chk_ix h1, h2, show ((((92 : UInt8).toNat : Nat) : Int) == 34) = false from rfl, cond_false, show ((((92 : UInt8).toNat : Nat) : Int) != 92) = false from rfl, cond_false, chk_pos ⟨by omega, by unfold ln; omega⟩, hd, hp2 _ _ hb1 (by decide), show ([92, 110] : Str).isPrefixOf (92 :: b :: (chs t ++ 34 :: r)) = false from pre_ne [] _ hne1, Option.bind_some, cond_false, hp2 _ _ hb1 (by decide), show ([92, 120] : Str).isPrefixOf (92 :: b :: (chs t ++ 34 :: r)) = false from pre_ne [] _ hne2, Option.bind_some, cond_false, lt_eq, cond_false]
      rw [w64_ix (by omega), show decide (((i + 1 : Nat) : Int) < ln s) = true from lt_dec g1, cond_true, chk_ix g1, g2, chk_pos (app_len _ _ (by rw [ofB_len]; omega) (by simp)), lt_eq, Option.bind_some]
      unfold sumK
      dsimp only
      exact fin (i + 1) _ g3 rfl (by rw [ofB_app]; rfl) (by omega) (by omega)
    · by_cases h10 : b.toNat = 10
      · have hch : ch b = [92, 110] := by unfold ch; rw [if_neg h34, if_pos h10]
        have hbe : b = 10 := UInt8.toNat_inj.1 h10
        rw [hch] at h fin
        obtain ⟨h1, h2, h3⟩ := bat_drop (x := 92) (r := 110 :: (chs t ++ 34 :: r)) h
        obtain ⟨g1, g2, g3⟩ := bat_drop h3
        have hb1 : (92 :: 110 :: (chs t ++ 34 :: r) : Str).length < 100000000000 := by
          have := congrArg List.length h
          rw [List.length_drop] at this
          have e : ([92, 110] ++ (chs t ++ 34 :: r) : Str).length = (92 :: 110 :: (chs t ++ 34 :: r) : Str).length := rfl
          omega
        have hd : sub s (i : Int) (ln s) = 92 :: 110 :: (chs t ++ 34 :: r) := by rw [sub_end s i (by omega)]; exact h
        rw [lt_dec h1, cond_true, chk_ix h1, h2, show ((((92 : UInt8).toNat : Nat) : Int) == 34) = false from rfl, cond_false, show ((((92 : UInt8).toNat : Nat) : Int) != 92) = false from rfl, cond_false, chk_pos ⟨by omega, by unfold ln; omega⟩, hd, hp2 _ _ hb1 (by decide), show ([92, 110] : Str).isPrefixOf (92 :: 110 :: (chs t ++ 34 :: r)) = true from pre_app [92, 110] _, Option.bind_some, cond_true, chk_pos (app_len _ _ (by rw [ofB_len]; omega) (by simp)), lt_eq, Option.bind_some]
        unfold sumK
        dsimp only
        rw [w64_ix (by omega)]
        exact fin (i + 1) _ g3 rfl (by rw [ofB_app, hbe]; rfl) (by omega) (by omega)
      · by_cases hpr : 32 ≤ b.toNat ∧ b.toNat ≤ 126
        · have hch : ch b = [b] := by unfold ch; rw [if_neg h34, if_neg h10, if_pos hpr]
          rw [hch] at h fin
          obtain ⟨h1, h2, h3⟩ := bat_drop (x := b) (r := chs t ++ 34 :: r) h
          rw [lt_dec h1, cond_true, chk_ix h1, h2, show (((b.toNat : Nat) : Int) == 34) = false from beq_eq_false_iff_ne.2 (by omega), cond_false, show (((b.toNat : Nat) : Int) != 92) = true from bne_iff_ne.2 (by omega), cond_true, chk_pos (app_len _ _ (by rw [ofB_len]; omega) (by simp)), lt_eq, Option.bind_some]
          unfold sumK
          dsimp only
          exact fin i _ h3 rfl (by rw [ofB_app]; rfl) (Nat.le_refl _) (by omega)
        · have hch : ch b = [92, 120, hexD (b.toNat / 16), hexD (b.toNat % 16)] := by unfold ch; rw [if_neg h34, if_neg h10, if_neg hpr]
          rw [hch] at h fin
          obtain ⟨h1, h2, h3⟩ := bat_drop (x := 92) (r := 120 :: hexD (b.toNat / 16) :: hexD (b.toNat % 16) :: (chs t ++ 34 :: r)) h
          obtain ⟨g1, g2, g3⟩ := bat_drop h3
          obtain ⟨k1, k2, k3⟩ := bat_drop g3
          obtain ⟨l1, l2, l3⟩ := bat_drop k3
          have hb1 : (92 :: 120 :: hexD (b.toNat / 16) :: hexD (b.toNat % 16) :: (chs t ++ 34 :: r) : Str).length < 100000000000 := by
            have := congrArg List.length h
            rw [List.length_drop] at this
            have e : ([92, 120, hexD (b.toNat / 16), hexD (b.toNat % 16)] ++ (chs t ++ 34 :: r) : Str).length = (92 :: 120 :: hexD (b.toNat / 16) :: hexD (b.toNat % 16) :: (chs t ++ 34 :: r) : Str).length := rfl
            omega
          have hd : sub s (i : Int) (ln s) = 92 :: 120 :: hexD (b.toNat / 16) :: hexD (b.toNat % 16) :: (chs t ++ 34 :: r) := by rw [sub_end s i (by omega)]; exact h
          have e1 := eq_of_beq (nat_all hex_back (n := b.toNat / 16) (by omega))
          have e2 := eq_of_beq (nat_all hex_back (n := b.toNat % 16) (by omega))
          have e3 := eq_of_beq (nat_all hex_or hbl)
          have w2 : w64 ((i : Int) + 2) = ((i + 1 + 1 : Nat) : Int) := by rw [w64_id (by omega) (by omega)]; omega
          have w3 : w64 ((i : Int) + 3) = ((i + 1 + 1 + 1 : Nat) : Int) := by rw [w64_id (by omega) (by omega)]; omega
          rw [lt_dec h1, cond_true, chk_ix h1, h2, show ((((92 : UInt8).toNat : Nat) : Int) == 34) = false from rfl, cond_false, show ((((92 : UInt8).toNat : Nat) : Int) != 92) = false from rfl, cond_false, chk_pos ⟨by omega, by unfold ln; omega⟩, hd, hp2 _ _ hb1 (by decide), show ([92, 110] : Str).isPrefixOf (92 :: 120 :: hexD (b.toNat / 16) :: hexD (b.toNat % 16) :: (chs t ++ 34 :: r)) = false from rfl, Option.bind_some, cond_false, hp2 _ _ hb1 (by decide), show ([92, 120] : Str).isPrefixOf (92 :: 120 :: hexD (b.toNat / 16) :: hexD (b.toNat % 16) :: (chs t ++ 34 :: r)) = true from pre_app [92, 120] _, Option.bind_some, cond_true, w3, lt_dec l1, lt_eq, cond_true, w2, chk_ix k1, chk_ix l1, k2, l2, e1, e2, lt_eq,
            show decide (((b.toNat / 16 : Nat) : Int) < 0) = false from decide_eq_false (by omega), cond_false, show decide (((b.toNat % 16 : Nat) : Int) < 0) = false from decide_eq_false (by omega), lt_eq, cond_false, lt_eq, lt_eq, e3, chk_pos (app_len _ _ (by rw [ofB_len]; omega) (by simp)), lt_eq, Option.bind_some]
          unfold sumK
          dsimp only
          exact fin (i + 1 + 1 + 1) _ l3 rfl (by rw [ofB_app]; rfl) (by omega) (by omega)
theorem uq_ok (m : Nat) (t r : Str) (hs : (chs t ++ 34 :: r).length < 1000000000) (hm : t.length < m) : answer_unquote m (chs t ++ 34 :: r) = some (t, (((chs t).length + 1 : Nat) : Int)) := by
  unfold answer_unquote
  have h := uq_L1 m _ hs r t m 0 [] (by rw [List.drop_zero]) hm (by simp)
  rw [show answer_unquote_L1 m (chs t ++ 34 :: r) m [] 0 = _ from h, Option.bind_some]
  unfold sumK
  dsimp only
  rw [List.nil_append, Nat.zero_add]
theorem uq_tot_L1 (m : Nat) (s : Str) (hs : s.length < 1000000000) : ∀ (kk i : Nat) (acc : List Int), s.length - i < kk → i ≤ s.length → acc.length ≤ i →
    ∃ z, answer_unquote_L1 m s kk acc (i : Int) = some z ∧ (z = .inr () ∨ ∃ (t : Str) (n : Nat), z = .inl (t, (n : Int)) ∧ n ≤ s.length ∧ t.length ≤ n) := by
  intro kk
  induction kk with
  | zero => intro i acc h; omega
  | succ kk ih =>
    intro i acc hk hi ha
    rw [answer_unquote_L1]
    by_cases hlt : i < s.length
    · have hsl : (sub s (i : Int) (ln s)) = s.drop i := sub_end s i hi
      have hdl : (s.drop i).length = s.length - i := List.length_drop
      have go : ∀ (j : Nat) (a' : List Int), i ≤ j → j + 1 ≤ s.length → a'.length ≤ j + 1 → ∃ z, answer_unquote_L1 m s kk a' (w64 ((j : Int) + 1)) = some z ∧ (z = .inr () ∨ ∃ (t : Str) (n : Nat), z = .inl (t, (n : Int)) ∧ n ≤ s.length ∧ t.length ≤ n) := by
        intro j a' h1 h2 h3
        rw [w64_ix (by omega)]
        exact ih (j + 1) a' (by omega) h2 h3
      have w2 : w64 ((i : Int) + 2) = ((i + 2 : Nat) : Int) := by rw [w64_id (by omega) (by omega)]; omega
      have w3 : w64 ((i : Int) + 3) = ((i + 3 : Nat) : Int) := by rw [w64_id (by omega) (by omega)]; omega
      rw [lt_dec hlt, cond_true, chk_ix hlt]
      cases h34 : (bat s (i : Int) == 34) with
      | true =>
        rw [cond_true, Option.bind_some]
        unfold sumK
        dsimp only
        exact ⟨_, rfl, Or.inr ⟨toB acc, i + 1, by rw [w64_ix (by omega)], hlt, by unfold toB; rw [List.length_map]; omega⟩⟩
      | false =>
        rw [cond_false]
        cases h92 : (bat s (i : Int) != 92) with
        | true =>
          rw [cond_true, chk_pos (app_len _ _ (by omega) (by simp)), lt_eq, Option.bind_some]
          unfold sumK
          dsimp only
          exact go i _ (Nat.le_refl _) hlt (by simp; omega)
        | false =>
          rw [cond_false, chk_pos ⟨by omega, by unfold ln; omega⟩, hsl, hp2 _ _ (by omega) (by decide), Option.bind_some]
          cases hp1 : ([92, 110] : Str).isPrefixOf (s.drop i) with
          | true =>
            have hle := (List.isPrefixOf_iff_prefix.1 hp1).length_le
            simp only [List.length_cons, List.length_nil] at hle
            rw [cond_true, chk_pos (app_len _ _ (by omega) (by simp)), lt_eq, Option.bind_some]
            unfold sumK
            dsimp only
            rw [w64_ix (by omega)]
            exact go (i + 1) _ (by omega) (by omega) (by simp; omega)
          | false =>
            rw [cond_false, hp2 _ _ (by omega) (by decide), Option.bind_some, w3, lt_eq]
            cases hc : cond (([92, 120] : Str).isPrefixOf (s.drop i)) (decide (((i + 3 : Nat) : Int) < ln s)) false with
            | true =>
              have hl3 : i + 3 < s.length := by
                cases hx : ([92, 120] : Str).isPrefixOf (s.drop i) with
                | false => rw [hx] at hc; cases hc
                | true => rw [hx, cond_true] at hc; have := of_decide_eq_true hc; unfold ln at this; omega
              rw [cond_true, w2, chk_ix (show i + 2 < s.length by omega), chk_ix hl3, lt_eq, lt_eq]
              cases cond (decide (answer_hex (bat s ((i + 2 : Nat) : Int)) < 0)) true (decide (answer_hex (bat s ((i + 3 : Nat) : Int)) < 0)) with
              | true =>
                rw [cond_true, Option.bind_some]
                unfold sumK
                dsimp only
                exact ⟨_, rfl, Or.inr ⟨[], 0, rfl, by omega, by simp⟩⟩
              | false =>
                rw [cond_false, lt_eq, lt_eq, chk_pos (app_len _ _ (by omega) (by simp)), lt_eq, Option.bind_some]
                unfold sumK
                dsimp only
                exact go (i + 3) _ (by omega) (by omega) (by simp; omega)
            | false =>
              rw [cond_false, w64_ix (by omega)]
              by_cases h1 : i + 1 < s.length
              · rw [lt_dec h1, cond_true, chk_ix h1, chk_pos (app_len _ _ (by omega) (by simp)), lt_eq, Option.bind_some]
                unfold sumK
                dsimp only
                exact go (i + 1) _ (by omega) (by omega) (by simp; omega)
              · rw [ge_dec (by omega), cond_false, Option.bind_some]
                unfold sumK
                dsimp only
                exact go i _ (Nat.le_refl _) hlt (by omega)
    · rw [ge_dec (by omega), cond_false]
      exact ⟨_, rfl, Or.inl rfl⟩
theorem uq_tot (m : Nat) (s : Str) (hs : s.length < 1000000000) (hm : s.length < m) : ∃ (t : Str) (n : Nat), answer_unquote m s = some (t, (n : Int)) ∧ n ≤ s.length ∧ t.length ≤ n := by
  unfold answer_unquote
  obtain ⟨z, z1, z2⟩ := uq_tot_L1 m s hs m 0 [] (by omega) (by omega) (by simp)
  rw [show answer_unquote_L1 m s m [] 0 = _ from z1, Option.bind_some]
  rcases z2 with rfl | ⟨t, n, rfl, h1, h2⟩
  · exact ⟨[], 0, rfl, by omega, by simp⟩
  · exact ⟨t, n, rfl, h1, h2⟩
end Go.Proofs.YtipafpkdkhnjmaaGreatDoor

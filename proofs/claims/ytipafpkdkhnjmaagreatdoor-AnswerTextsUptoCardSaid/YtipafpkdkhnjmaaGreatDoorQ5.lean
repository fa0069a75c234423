/-
  Answers as text: the reference's reader. No program in sight.
-/
import Derived.Test.YtipafpkdkhnjmaaGreatDoorQ4
set_option linter.unusedVariables false
set_option maxRecDepth 100000
namespace Go.Proofs.YtipafpkdkhnjmaaGreatDoor
open Go Go.V Go.RowKit
theorem w64_in (x : Int) : In64 (w64 x) := by
  unfold In64
  show -9223372036854775808 ≤ IntKind.i64.wrap x ∧ IntKind.i64.wrap x ≤ 9223372036854775807
  unfold IntKind.wrap
  simp only [IntKind.bits, IntKind.signed, Bool.true_and]
  split <;> rename_i hh <;> simp only [ge_iff_le, decide_eq_true_eq] at hh <;> omega
/-! ## Numbers -/
def digB (b : UInt8) : Bool := cond (decide (48 ≤ ((b.toNat : Nat) : Int))) (decide (((b.toNat : Nat) : Int) ≤ 57)) false
theorem digB_iff {b : UInt8} : digB b = true ↔ 48 ≤ b.toNat ∧ b.toNat ≤ 57 := by
  unfold digB
  by_cases h : 48 ≤ b.toNat
  · rw [decide_eq_true (show (48 : Int) ≤ ((b.toNat : Nat) : Int) by omega), cond_true, decide_eq_true_eq]; omega
  · rw [decide_eq_false (show ¬ (48 : Int) ≤ ((b.toNat : Nat) : Int) by omega), cond_false]
    exact ⟨(fun h => by cases h), fun h2 => absurd h2.1 h⟩
def okN (s : Str) (i : Nat) : Bool := match s[i]? with
  | some b => cond (digB b) true (cond (((i : Nat) : Int) == 0) (((b.toNat : Nat) : Int) == 45) false)
  | none => false
theorem num_L1 (m : Nat) (s : Str) (hs : s.length < 1000000000) : ∀ (kk i : Nat), s.length - i < kk → i ≤ s.length → ∃ z : Nat, r40_number_L1 m s kk (i : Int) = some (z : Int) ∧ i ≤ z ∧ z ≤ s.length ∧ (∀ j, i ≤ j → j < z → okN s j = true) ∧ okN s z = false := by
  intro kk
  induction kk with
  | zero => intro i h; omega
  | succ kk ih =>
    intro i hk hi
    rw [r40_number_L1]
    by_cases hlt : i < s.length
    · have hget : s[i]? = some s[i] := List.getElem?_eq_getElem hlt
      have hx : cond (digB s[i]) true (cond (((i : Nat) : Int) == 0) (((s[i].toNat : Nat) : Int) == 45) false) = okN s i := by unfold okN; rw [hget]
      rw [lt_dec hlt, bat_nat s i hlt, chk_pos (fun _ => ⟨by omega, by unfold ln; omega⟩), chk_pos (fun _ _ => ⟨by omega, by unfold ln; omega⟩), chk_pos (fun _ _ _ => ⟨by omega, by unfold ln; omega⟩), lt_eq, cond_true]
      rw [show cond (cond (decide (48 ≤ ((s[i].toNat : Nat) : Int))) (decide (((s[i].toNat : Nat) : Int) ≤ 57)) false) true (cond (((i : Nat) : Int) == 0) (((s[i].toNat : Nat) : Int) == 45) false) = okN s i from hx]
      cases hok : okN s i with
      | false => exact ⟨i, rfl, Nat.le_refl _, hi, fun j a b => by omega, hok⟩
      | true =>
        rw [cond_true, w64_ix (by omega)]
        obtain ⟨z, z1, z2, z3, z4, z5⟩ := ih (i + 1) (by omega) hlt
        refine ⟨z, z1, by omega, z3, fun j a b => ?_, z5⟩
        by_cases e : j = i
        · rw [e]; exact hok
        · exact z4 j (by omega) b
    · have hget : s[i]? = none := List.getElem?_eq_none (by omega)
      rw [ge_dec (by omega), chk_pos (fun h => by cases h), chk_pos (fun _ h => by cases h), chk_pos (fun _ _ h => by cases h), lt_eq, cond_false, cond_false]
      exact ⟨i, rfl, Nat.le_refl _, hi, fun j a b => by omega, by unfold okN; rw [hget]⟩
/-- Downwards, digit by digit. -/
def dn (x : Int) (b : UInt8) : Int := cond (((b.toNat : Nat) : Int) == 45) x (w64 (w64 (x * 10) - w64 (wu8 (((b.toNat : Nat) : Int) - 48))))
theorem num_L2 (m : Nat) (s : Str) (hs : s.length < 1000000000) (z : Nat) (hz : z ≤ s.length) (hz2 : z ≤ 20) : ∀ (kk i : Nat) (x : Int), z - i < kk → i ≤ z → r40_number_L2 m s (z : Int) kk x (i : Int) = some (((s.take z).drop i).foldl dn x) := by
  intro kk
  induction kk with
  | zero => intro i x h; omega
  | succ kk ih =>
    intro i x hk hi
    have htl : (s.take z).length = z := by rw [List.length_take]; omega
    rw [r40_number_L2]
    by_cases hlt : i < z
    · have hg : (s.take z)[i]'(by omega) = s[i]'(by omega) := List.getElem_take
      rw [decide_eq_true (show (i : Int) < (z : Int) by omega), decide_eq_true (show (z : Int) ≤ 20 by omega), lt_eq, cond_true, cond_true, chk_ix (by omega), bat_nat s i (by omega), w64_ix (by omega), List.drop_eq_getElem_cons (by omega), hg, List.foldl_cons]
      unfold dn
      cases hb : (((s[i].toNat : Nat) : Int) == 45) with
      | true => rw [cond_true, Option.bind_some, ih (i + 1) x (by omega) hlt]; rfl
      | false => rw [cond_false, lt_eq, Option.bind_some, ih (i + 1) _ (by omega) hlt]; rfl
    · rw [decide_eq_false (show ¬ (i : Int) < (z : Int) by omega), lt_eq, cond_false, cond_false, List.drop_eq_nil_of_le (by omega)]
      rfl
theorem num_L2_big (m : Nat) (s : Str) (z : Nat) (hz2 : 20 < z) (kk : Nat) (x : Int) : r40_number_L2 m s (z : Int) (kk + 1) x 0 = some x := by
  rw [r40_number_L2, decide_eq_false (show ¬ (z : Int) ≤ 20 by omega), lt_eq]
  cases decide ((0 : Int) < (z : Int)) <;> rfl
theorem rnum_tot (m : Nat) (s : Str) (hs : s.length < 1000000000) (hm : s.length < m) (hm2 : 20 < m) :
    ∃ (z : Nat) (x : Int), r40_number m s = some (cond (cond ((z : Int) == 0) true (bat s 0 != 45)) (w64 (0 - x)) x, s.drop z) ∧ z ≤ s.length ∧ (∀ j, j < z → okN s j = true) ∧ okN s z = false ∧ In64 x ∧ (z ≤ 20 → x = (s.take z).foldl dn 0) := by
  obtain ⟨z, z1, z2, z3, z4, z5⟩ := num_L1 m s hs m 0 (by omega) (by omega)
  unfold r40_number
  rw [show r40_number_L1 m s m 0 = _ from z1, Option.bind_some]
  have hin : ∀ (l : Str) (x : Int), In64 x → In64 (l.foldl dn x) := by
    intro l
    induction l with
    | nil => intro x h; exact h
    | cons b l ih =>
      intro x h
      refine ih _ ?_
      unfold dn
      cases (((b.toNat : Nat) : Int) == 45)
      · exact w64_in _
      · exact h
  have hx : ∃ x : Int, r40_number_L2 m s (z : Int) m 0 0 = some x ∧ In64 x ∧ (z ≤ 20 → x = (s.take z).foldl dn 0) := by
    by_cases h20 : z ≤ 20
    · refine ⟨_, num_L2 m s hs z z3 h20 m 0 0 (by omega) (by omega), ?_, fun _ => by rw [List.drop_zero]⟩
      exact hin _ _ ⟨by decide, by decide⟩
    · obtain ⟨k, rfl⟩ : ∃ k, m = k + 1 := ⟨m - 1, by omega⟩
      exact ⟨0, num_L2_big (k + 1) s z (by omega) k 0, ⟨by decide, by decide⟩, fun h => absurd h h20⟩
  obtain ⟨x, x1, x2, x3⟩ := hx
  refine ⟨z, x, ?_, z3, fun j hj => z4 j (by omega) hj, z5, x2, x3⟩
  rw [x1, Option.bind_some]
  have hck : ((z : Int) == 0) = false → 0 ≤ (0 : Int) ∧ (0 : Int) < ln s := fun h => ⟨by omega, by
    have : ¬ (z : Int) = 0 := beq_eq_false_iff_ne.1 h
    unfold ln; omega⟩
  rw [chk_pos hck]
  cases cond ((z : Int) == 0) true (bat s 0 != 45)
  · rw [cond_false, cond_false, Option.bind_some, chk_pos ⟨by omega, by unfold ln; omega⟩, sub_end s z z3]
  · rw [cond_true, cond_true, Option.bind_some, chk_pos ⟨by omega, by unfold ln; omega⟩, sub_end s z z3]
theorem rnum_in (m : Nat) (s : Str) (hs : s.length < 1000000000) (hm : s.length < m) (hm2 : 20 < m) : ∃ (n : Int) (r : Str), r40_number m s = some (n, r) ∧ In64 n ∧ r.length ≤ s.length := by
  obtain ⟨z, x, h1, h2, _, _, h3, _⟩ := rnum_tot m s hs hm hm2
  refine ⟨_, _, h1, ?_, by rw [List.length_drop]; omega⟩
  cases cond ((z : Int) == 0) true (bat s 0 != 45)
  · exact h3
  · exact w64_in _
theorem dn_dig {b : UInt8} (h : 48 ≤ b.toNat ∧ b.toNat ≤ 57) {x : Int} (h1 : -922337203685477580 ≤ x) (h2 : x ≤ 0) : dn x b = w64 (x * 10 - ((b.toNat - 48 : Nat) : Int)) := by
  unfold dn
  rw [show (((b.toNat : Nat) : Int) == 45) = false from beq_eq_false_iff_ne.2 (by omega), cond_false, w64_id (x := x * 10) (by omega) (by omega), wu8_id (by omega) (by omega), w64_id (x := ((b.toNat : Nat) : Int) - 48) (by omega) (by omega)]
  congr 1; omega
theorem dn_dd : ∀ (k u : Nat), u < 10 ^ (k + 1) → u ≤ 9223372036854775808 → (Lib.decDigits u).foldl dn 0 = -(u : Int)
  | k, u, h, hu => by
    have one : ∀ (d : Nat) (x : Nat), d < 10 → x ≤ 922337203685477580 → x * 10 + d ≤ 9223372036854775808 → dn (-(x : Int)) (UInt8.ofNat (48 + d)) = -((x * 10 + d : Nat) : Int) := by
      intro d x hd h1 h2
      have hb : (UInt8.ofNat (48 + d)).toNat = 48 + d := by simp; omega
      rw [dn_dig (by rw [hb]; omega) (by omega) (by omega), hb, w64_id (by omega) (by omega)]; omega
    by_cases h10 : u < 10
    · rw [dd_small h10]
      show dn (-((0 : Nat) : Int)) _ = _
      rw [one u 0 h10 (by omega) (by omega)]; simp
    · cases k with
      | zero => exact absurd (by simpa using h) h10
      | succ k =>
        rw [dd_big h10, List.foldl_append, dn_dd k (u / 10) (by rw [Nat.pow_succ] at h; omega) (by omega)]
        show dn _ _ = _
        rw [one (u % 10) (u / 10) (by omega) (by omega) (by omega), show u / 10 * 10 + u % 10 = u from by omega]
theorem rnum_ok (m : Nat) {n : Int} (h : In64 n) {c : UInt8} (hc : digB c = false) (r : Str) (hr : (Lib.itoa n ++ c :: r).length < 1000000000) (hm : (Lib.itoa n ++ c :: r).length < m) (hm2 : 20 < m) : r40_number m (Lib.itoa n ++ c :: r) = some (n, c :: r) := by
  obtain ⟨z, x, h1, h2, h3, h4, h5, h6⟩ := rnum_tot m _ hr hm hm2
  have hl := itoa_len h
  have hby := itoa_bytes h
  obtain ⟨c0, q0, hq0, _⟩ := itoa_head h
  have hpos : 0 < (Lib.itoa n).length := by rw [hq0]; simp
  -- inside the numeral every place goes on
  have hin : ∀ j, j < (Lib.itoa n).length → okN (Lib.itoa n ++ c :: r) j = true := by
    intro j hj
    unfold okN
    rw [List.getElem?_append_left hj, List.getElem?_eq_getElem hj]
    dsimp only
    by_cases hneg : n < 0
    · have e : Lib.itoa n = 45 :: Lib.decDigits n.natAbs := by unfold Lib.itoa; rw [if_pos hneg]
      cases j with
      | zero =>
        have : (Lib.itoa n)[0] = 45 := by simp [e]
        rw [this]; rfl
      | succ j =>
        have hjd : j < (Lib.decDigits n.natAbs).length := by rw [e] at hj; simpa using hj
        have e2 : (Lib.itoa n)[j + 1] = (Lib.decDigits n.natAbs)[j] := by simp [e]
        obtain ⟨h7, h8⟩ := h
        have := dd_dig 18 n.natAbs (by show _ < 10000000000000000000; omega) _ (List.getElem_mem hjd)
        rw [e2, digB_iff.2 this]; rfl
    · have e : Lib.itoa n = Lib.decDigits n.toNat := by unfold Lib.itoa; rw [if_neg hneg]
      obtain ⟨h7, h8⟩ := h
      have := dd_dig 18 n.toNat (by show _ < 10000000000000000000; omega) (Lib.itoa n)[j] (by rw [← e]; exact List.getElem_mem hj)
      rw [digB_iff.2 this]; rfl
  have hout : okN (Lib.itoa n ++ c :: r) (Lib.itoa n).length = false := by
    unfold okN
    rw [List.getElem?_append_right (Nat.le_refl _), Nat.sub_self]
    show cond (digB c) true _ = false
    rw [hc, cond_false, show ((((Lib.itoa n).length : Nat) : Int) == 0) = false from beq_eq_false_iff_ne.2 (by omega), cond_false]
  have hzz : z = (Lib.itoa n).length := by
    rcases Nat.lt_trichotomy z (Lib.itoa n).length with h | h | h
    · rw [hin z h] at h4; cases h4
    · exact h
    · rw [h3 _ h] at hout; cases hout
  have hx := h6 (by omega)
  rw [hzz, List.take_left] at hx
  rw [h1, hzz, List.drop_left]
  have hb0 : bat (Lib.itoa n ++ c :: r) 0 = ((c0.toNat : Nat) : Int) := by rw [hq0]; rfl
  rw [show ((((Lib.itoa n).length : Nat) : Int) == 0) = false from beq_eq_false_iff_ne.2 (by omega), cond_false, hb0]
  obtain ⟨h7, h8⟩ := h
  by_cases hneg : n < 0
  · have e : Lib.itoa n = 45 :: Lib.decDigits n.natAbs := by unfold Lib.itoa; rw [if_pos hneg]
    have hc0 : c0 = 45 := by rw [e] at hq0; injection hq0 with a b; exact a.symm
    rw [e, List.foldl_cons, show dn 0 45 = 0 from rfl, dn_dd 18 _ (by show _ < 10000000000000000000; omega) (by omega)] at hx
    rw [hc0, show ((((45 : UInt8).toNat : Nat) : Int) != 45) = false from rfl, cond_false, hx, show -((n.natAbs : Nat) : Int) = n from by omega]
  · have e : Lib.itoa n = Lib.decDigits n.toNat := by unfold Lib.itoa; rw [if_neg hneg]
    have hd := dd_dig 18 n.toNat (by show _ < 10000000000000000000; omega) c0 (by rw [← e, hq0]; exact List.mem_cons_self)
    rw [e, dn_dd 18 _ (by show _ < 10000000000000000000; omega) (by omega)] at hx
    rw [show (((c0.toNat : Nat) : Int) != 45) = true from bne_iff_ne.2 (by omega), cond_true, hx, w64_id (by omega) (by omega), show 0 - -((n.toNat : Nat) : Int) = n from by omega]
theorem after_eq (s : Str) (n : Nat) : r40_after s (n : Int) = some (s.drop n) := by
  unfold r40_after
  by_cases h : s.length < n
  · rw [show decide (ln s < (n : Int)) = true from decide_eq_true (by unfold ln; omega), cond_true, List.drop_eq_nil_of_le (by omega)]
  · rw [show decide (ln s < (n : Int)) = false from decide_eq_false (by unfold ln; omega), cond_false, chk_pos ⟨by omega, by unfold ln; omega⟩, sub_end s n (by omega)]
/-! ## Texts in quotes -/
theorem free_all : ((List.range 256).all fun c => (List.range 256).all fun b => cond (c == b) true (!((ch (UInt8.ofNat c)).isPrefixOf (ch (UInt8.ofNat b))))) = true := by kernel_rfl
theorem ch_free {c b : UInt8} (h : c ≠ b) : (ch c).isPrefixOf (ch b) = false := by
  have h1 := nat_all (nat_all free_all c.toNat_lt) b.toNat_lt
  rw [of_nat, of_nat, show (c.toNat == b.toNat) = false from beq_eq_false_iff_ne.2 fun e => h (UInt8.toNat_inj.1 e), cond_false] at h1
  simpa using h1
theorem ch_pre {c b : UInt8} (r : Str) (h : c ≠ b) : (ch c).isPrefixOf (ch b ++ r) = false := by
  cases hp : (ch c).isPrefixOf (ch b ++ r) with
  | false => rfl
  | true =>
    have h1 := List.isPrefixOf_iff_prefix.1 hp
    rcases Nat.le_total (ch c).length (ch b).length with hl | hl
    · have : ch c <+: ch b := List.prefix_of_prefix_length_le h1 (List.prefix_append _ _) hl
      have := List.isPrefixOf_iff_prefix.2 this
      rw [ch_free h] at this; cases this
    · have : ch b <+: ch c := List.prefix_of_prefix_length_le (List.prefix_append _ _) h1 hl
      have := List.isPrefixOf_iff_prefix.2 this
      rw [ch_free (fun e => h e.symm)] at this; cases this
/-- Is a byte written at a place? -/
def isAt (s : Str) (i : Nat) (c : UInt8) : Bool := cond (cond (bat s (i : Int) == ((c.toNat : Nat) : Int)) true (bat s (i : Int) == 92)) ((ch c).isPrefixOf (s.drop i)) false
theorem q_L2 (m : Nat) (s : Str) (hs : s.length < 1000000000) (i : Nat) (hi : i < s.length) (kk c : Nat) (hc : c < 256) (acc : List Int) (ha : acc.length ≤ 1000000000) :
    r40_quoted_L2 m s (kk + 1) acc (i : Int) false (c : Int) = cond (isAt s i (UInt8.ofNat c)) (r40_quoted_L2 m s kk (acc ++ [(c : Int)]) ((i + (ch (UInt8.ofNat c)).length : Nat) : Int) true ((c + 1 : Nat) : Int)) (r40_quoted_L2 m s kk acc (i : Int) false ((c + 1 : Nat) : Int)) := by
  have hcn : (UInt8.ofNat c).toNat = c := by simp; omega
  have hch : r40_Char (wu8 (c : Int)) = some (ch (UInt8.ofNat c)) := by
    have := char_at (UInt8.ofNat c)
    rw [hcn] at this
    rw [wu8_id (by omega) (by omega)]; exact this
  have hcl := ch_len (UInt8.ofNat c)
  rw [r40_quoted_L2, decide_eq_true (show (c : Int) < 256 by omega), Bool.not_false, cond_true, cond_true, hch, Option.bind_some, chk_ix hi, lt_eq, lt_eq, w64_ix (by omega), wu8_id (x := (c : Int)) (by omega) (by omega)]
  have hw : w64 (ln s - (i : Int)) = ((s.length - i : Nat) : Int) := by unfold ln; rw [w64_id (by omega) (by omega)]; omega
  have hw2 : w64 ((i : Int) + ln (ch (UInt8.ofNat c))) = ((i + (ch (UInt8.ofNat c)).length : Nat) : Int) := by unfold ln; rw [w64_id (by omega) (by omega)]; omega
  rw [hw, hw2]
  unfold isAt
  rw [hcn]
  cases h1 : cond (bat s (i : Int) == (c : Int)) true (bat s (i : Int) == 92) with
  | false => rw [cond_false, cond_false, chk_pos (fun h => by cases h), lt_eq, cond_false, cond_false, Option.bind_some, cond_false]
  | true =>
    rw [cond_true, cond_true]
    have hsub : ∀ h : i + (ch (UInt8.ofNat c)).length ≤ s.length, (sub s (i : Int) ((i + (ch (UInt8.ofNat c)).length : Nat) : Int) == ch (UInt8.ofNat c)) = (ch (UInt8.ofNat c)).isPrefixOf (s.drop i) := by
      intro h
      have e : sub s (i : Int) ((i + (ch (UInt8.ofNat c)).length : Nat) : Int) = (s.drop i).take (ch (UInt8.ofNat c)).length := by unfold sub; rw [Int.toNat_natCast, Int.toNat_natCast, Nat.add_sub_cancel_left]
      rw [e]
      cases hb : (ch (UInt8.ofNat c)).isPrefixOf (s.drop i) with
      | true => rw [beq_iff_eq]; exact (List.prefix_iff_eq_take.1 (List.isPrefixOf_iff_prefix.1 hb)).symm
      | false =>
        rw [beq_eq_false_iff_ne]
        intro e
        have := List.isPrefixOf_iff_prefix.2 (List.prefix_iff_eq_take.2 e.symm)
        rw [hb] at this; cases this
    by_cases hlen : i + (ch (UInt8.ofNat c)).length ≤ s.length
    · rw [show decide (ln (ch (UInt8.ofNat c)) ≤ ((s.length - i : Nat) : Int)) = true from decide_eq_true (by unfold ln; omega), chk_pos (fun _ => ⟨by omega, by omega, by unfold ln; omega⟩), lt_eq, cond_true, hsub hlen]
      cases (ch (UInt8.ofNat c)).isPrefixOf (s.drop i) with
      | false => rw [cond_false, Option.bind_some, cond_false]
      | true => rw [cond_true, chk_pos (app_len _ _ (by omega) (by simp)), lt_eq, Option.bind_some, cond_true]
    · have hp : (ch (UInt8.ofNat c)).isPrefixOf (s.drop i) = false := by
        cases hb : (ch (UInt8.ofNat c)).isPrefixOf (s.drop i) with
        | false => rfl
        | true =>
          have := (List.isPrefixOf_iff_prefix.1 hb).length_le
          rw [List.length_drop] at this; omega
      rw [show decide (ln (ch (UInt8.ofNat c)) ≤ ((s.length - i : Nat) : Int)) = false from decide_eq_false (by unfold ln; omega), chk_pos (fun h => by cases h), lt_eq, cond_false, cond_false, Option.bind_some, hp, cond_false]
theorem q_L2_end (m : Nat) (s : Str) (kk : Nat) (acc : List Int) (i c : Int) : r40_quoted_L2 m s (kk + 1) acc i true c = some (i, true, acc) := by
  rw [r40_quoted_L2]
  cases decide (c < 256) <;> rfl
theorem q_L2_ok (m : Nat) (s : Str) (hs : s.length < 1000000000) (i : Nat) (b : UInt8) (r : Str) (h : s.drop i = ch b ++ r) (acc : List Int) (ha : acc.length ≤ 1000000000) : ∀ (kk c : Nat), c ≤ b.toNat → 257 - c < kk → r40_quoted_L2 m s kk acc (i : Int) false (c : Int) = some (((i + (ch b).length : Nat) : Int), true, acc ++ [((b.toNat : Nat) : Int)]) := by
  have hbl := b.toNat_lt
  have hcl := ch_len b
  have hi : i < s.length := by
    have := congrArg List.length h
    rw [List.length_drop, List.length_append] at this
    omega
  intro kk
  induction kk with
  | zero => intro c _ h; omega
  | succ kk ih =>
    intro c hc hk
    rw [q_L2 m s hs i hi kk c (by omega) acc ha]
    by_cases e : c = b.toNat
    · subst e
      rw [of_nat]
      have hat : isAt s i b = true := by
        unfold isAt
        rw [h, pre_app]
        have hfirst : cond (bat s (i : Int) == ((b.toNat : Nat) : Int)) true (bat s (i : Int) == 92) = true := by
          have hx : ∃ q, s.drop i = b :: q ∨ s.drop i = 92 :: q := by
            rw [h]
            unfold ch
            split
            · exact ⟨_, Or.inr rfl⟩
            · split
              · exact ⟨_, Or.inr rfl⟩
              · split
                · exact ⟨_, Or.inl rfl⟩
                · exact ⟨_, Or.inr rfl⟩
          obtain ⟨q, hq | hq⟩ := hx
          · rw [(bat_drop hq).2.1, beq_self_eq_true]; rfl
          · rw [(bat_drop hq).2.1]
            cases ((((92 : UInt8).toNat : Nat) : Int) == ((b.toNat : Nat) : Int)) <;> rfl
        rw [hfirst]; rfl
      rw [hat, cond_true]
      obtain ⟨k, rfl⟩ : ∃ k, kk = k + 1 := ⟨kk - 1, by omega⟩
      exact q_L2_end m s k _ _ _
    · have hne : UInt8.ofNat c ≠ b := fun h2 => e (by rw [← h2]; simp; omega)
      have hat : isAt s i (UInt8.ofNat c) = false := by
        unfold isAt
        rw [h, ch_pre r hne]
        cases cond (bat s (i : Int) == (((UInt8.ofNat c).toNat : Nat) : Int)) true (bat s (i : Int) == 92) <;> rfl
      rw [hat, cond_false]
      exact ih (c + 1) (by omega) (by omega)
theorem q_L2_tot (m : Nat) (s : Str) (hs : s.length < 1000000000) (i : Nat) (hi : i < s.length) (acc : List Int) (ha : acc.length ≤ 1000000000) : ∀ (kk c : Nat), c ≤ 256 → 257 - c < kk →
    ∃ (i' : Nat) (f : Bool) (acc' : List Int), r40_quoted_L2 m s kk acc (i : Int) false (c : Int) = some ((i' : Int), f, acc') ∧ (f = true → i < i' ∧ i' ≤ s.length ∧ acc'.length = acc.length + 1) := by
  intro kk
  induction kk with
  | zero => intro c _ h; omega
  | succ kk ih =>
    intro c hc hk
    by_cases h256 : c < 256
    · rw [q_L2 m s hs i hi kk c h256 acc ha]
      cases hat : isAt s i (UInt8.ofNat c) with
      | false => rw [cond_false]; exact ih (c + 1) h256 (by omega)
      | true =>
        obtain ⟨k, rfl⟩ : ∃ k, kk = k + 1 := ⟨kk - 1, by omega⟩
        rw [cond_true, q_L2_end]
        have hcl := ch_len (UInt8.ofNat c)
        refine ⟨_, _, _, rfl, fun _ => ⟨by omega, ?_, by simp⟩⟩
        unfold isAt at hat
        cases h1 : cond (bat s (i : Int) == (((UInt8.ofNat c).toNat : Nat) : Int)) true (bat s (i : Int) == 92) with
        | false => rw [h1] at hat; cases hat
        | true =>
          rw [h1, cond_true] at hat
          have := (List.isPrefixOf_iff_prefix.1 hat).length_le
          rw [List.length_drop] at this; omega
    · rw [r40_quoted_L2, decide_eq_false (show ¬ (c : Int) < 256 by omega), cond_false, cond_false]
      exact ⟨i, false, acc, rfl, fun h => by cases h⟩
theorem q_L1_ok (m : Nat) (s : Str) (hs : s.length < 1000000000) (hm : 300 < m) (r : Str) : ∀ (t : Str) (kk i : Nat) (acc : Str), s.drop i = chs t ++ 34 :: r → t.length < kk → acc.length ≤ i → r40_quoted_L1 m s kk (ofB acc) (i : Int) = some (.inl (acc ++ t, r, true)) := by
  intro t
  induction t with
  | nil =>
    intro kk i acc h hk ha
    obtain ⟨k, rfl⟩ : ∃ k, kk = k + 1 := ⟨kk - 1, by simp at hk; omega⟩
    obtain ⟨h1, h2, h3⟩ := bat_drop (x := 34) (r := r) h
    rw [r40_quoted_L1, lt_dec h1, cond_true, chk_ix h1, h2, show ((((34 : UInt8).toNat : Nat) : Int) == 34) = true from rfl, cond_true, w64_ix (by omega), chk_pos ⟨by omega, by unfold ln; omega⟩, sub_end s (i + 1) (by omega), h3, toB_ofB, List.append_nil]
  | cons b t ih =>
    intro kk i acc h hk ha
    obtain ⟨k, rfl⟩ : ∃ k, kk = k + 1 := ⟨kk - 1, by simp at hk; omega⟩
    rw [chs_cons, List.append_assoc] at h
    have hcl := ch_len b
    have hlen := congrArg List.length h
    rw [List.length_drop, List.length_append] at hlen
    have hne : (bat s (i : Int) == 34) = false := by
      have hx : ∃ x q, s.drop i = x :: q ∧ x.toNat ≠ 34 := by
        rw [h]
        unfold ch
        split
        · exact ⟨92, _, rfl, by decide⟩
        · rename_i hq
          split
          · exact ⟨92, _, rfl, by decide⟩
          · split
            · exact ⟨b, _, rfl, fun e => hq (Or.inl e)⟩
            · exact ⟨92, _, rfl, by decide⟩
      obtain ⟨x, q, hq, hx⟩ := hx
      rw [(bat_drop hq).2.1]
      exact beq_eq_false_iff_ne.2 (by omega)
    have h1 : i < s.length := by omega
    rw [r40_quoted_L1, lt_dec h1, cond_true, chk_ix h1, hne, cond_false, show r40_quoted_L2 m s m (ofB acc) (i : Int) false 0 = _ from q_L2_ok m s hs i b _ h (ofB acc) (by rw [ofB_len]; omega) m 0 (by omega) (by omega), Option.bind_some, Bool.not_true, cond_false]
    have hd : s.drop (i + (ch b).length) = chs t ++ 34 :: r := by rw [← List.drop_drop, h, List.drop_left]
    have e1 : ofB acc ++ [((b.toNat : Nat) : Int)] = ofB (acc ++ [b]) := by rw [ofB_app]; rfl
    dsimp only
    rw [e1, ih k (i + (ch b).length) (acc ++ [b]) hd (by simp at hk; omega) (by simp; omega), List.append_assoc]
    rfl
theorem q_ok (m : Nat) (t r : Str) (hs : (qt t ++ r).length < 1000000000) (hm : t.length < m) (hm2 : 300 < m) : r40_quoted m (qt t ++ r) = some (t, r, true) := by
  have e : qt t ++ r = 34 :: (chs t ++ 34 :: r) := by unfold qt; simp
  rw [e] at hs ⊢
  unfold r40_quoted
  have hln : (ln (34 :: (chs t ++ 34 :: r)) == 0) = false := beq_eq_false_iff_ne.2 (by unfold ln; simp only [List.length_cons]; omega)
  have hb0 : bat (34 :: (chs t ++ 34 :: r)) 0 = 34 := rfl
  rw [chk_pos (fun _ => ⟨by omega, by unfold ln; simp only [List.length_cons]; omega⟩), hln, cond_false, hb0, lt_eq, show ((34 : Int) != 34) = false from rfl, cond_false]
  have h := q_L1_ok m (34 :: (chs t ++ 34 :: r)) hs hm2 r t m 1 [] rfl hm (by simp)
  rw [show r40_quoted_L1 m (34 :: (chs t ++ 34 :: r)) m [] 1 = _ from h, Option.bind_some]
  rfl
theorem q_L1_tot (m : Nat) (s : Str) (hs : s.length < 1000000000) (hm : 300 < m) : ∀ (kk i : Nat) (acc : List Int), s.length - i < kk → i ≤ s.length → acc.length ≤ i →
    ∃ z, r40_quoted_L1 m s kk acc (i : Int) = some z ∧ (z = .inr () ∨ ∃ (t r : Str) (ok : Bool), z = .inl (t, r, ok) ∧ (ok = true → t.length + r.length < s.length + acc.length - i + (i - acc.length) ∧ t.length + r.length + 1 ≤ s.length)) := by
  intro kk
  induction kk with
  | zero => intro i acc h; omega
  | succ kk ih =>
    intro i acc hk hi ha
    rw [r40_quoted_L1]
    by_cases hlt : i < s.length
    · rw [lt_dec hlt, cond_true, chk_ix hlt]
      cases h34 : (bat s (i : Int) == 34) with
      | true =>
        rw [cond_true, w64_ix (by omega), chk_pos ⟨by omega, by unfold ln; omega⟩, sub_end s (i + 1) (by omega)]
        refine ⟨_, rfl, Or.inr ⟨_, _, _, rfl, fun _ => ?_⟩⟩
        have : (toB acc).length = acc.length := by unfold toB; rw [List.length_map]
        rw [this, List.length_drop]; omega
      | false =>
        obtain ⟨i', f, acc', g1, g2⟩ := q_L2_tot m s hs i hlt acc (by omega) m 0 (by omega) (by omega)
        rw [cond_false, show r40_quoted_L2 m s m acc (i : Int) false 0 = _ from g1, Option.bind_some]
        cases f with
        | false => exact ⟨_, rfl, Or.inr ⟨_, _, _, rfl, fun h => by cases h⟩⟩
        | true =>
          obtain ⟨k1, k2, k3⟩ := g2 rfl
          rw [Bool.not_true, cond_false]
          obtain ⟨z, z1, z2⟩ := ih i' acc' (by omega) k2 (by omega)
          refine ⟨z, z1, ?_⟩
          rcases z2 with h | ⟨t, r, ok, h1, h2⟩
          · exact Or.inl h
          · exact Or.inr ⟨t, r, ok, h1, fun h => by have := h2 h; omega⟩
    · rw [ge_dec (by omega), cond_false]
      exact ⟨_, rfl, Or.inl rfl⟩
theorem q_tot (m : Nat) (s : Str) (hs : s.length < 1000000000) (hm : s.length < m) (hm2 : 300 < m) : ∃ (t r : Str) (ok : Bool), r40_quoted m s = some (t, r, ok) ∧ (ok = true → t.length + r.length + 1 ≤ s.length) := by
  unfold r40_quoted
  have hck : (ln s == 0) = false → 0 ≤ (0 : Int) ∧ (0 : Int) < ln s := fun h => ⟨by omega, by
    have : ¬ ln s = 0 := beq_eq_false_iff_ne.1 h
    unfold ln at this ⊢; omega⟩
  rw [chk_pos hck, lt_eq]
  cases hc : cond (ln s == 0) true (bat s 0 != 34) with
  | true => exact ⟨[], [], false, rfl, fun h => by cases h⟩
  | false =>
    have h0 : 0 < s.length := by
      cases h : (ln s == 0) with
      | true => rw [h] at hc; cases hc
      | false => have := (hck h).2; unfold ln at this; omega
    obtain ⟨z, z1, z2⟩ := q_L1_tot m s hs hm2 m 1 [] (by omega) (by omega) (by simp)
    rw [cond_false, show r40_quoted_L1 m s m [] 1 = _ from z1, Option.bind_some]
    rcases z2 with rfl | ⟨t, r, ok, rfl, h2⟩
    · exact ⟨[], [], false, rfl, fun h => by cases h⟩
    · exact ⟨t, r, ok, rfl, fun h => (h2 h).2⟩
end Go.Proofs.YtipafpkdkhnjmaaGreatDoor

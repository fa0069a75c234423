/-
  FixedOrder, FixedParts and FixedWithin, in plain words.
-/
import Derived.Test.YtbealjlgbfpadaaP06c
namespace Go.Proofs.Ytbealjlgbfpadaa
open Go.V Go.RowKit

theorem neg_ok {a : Int} (h : inN a) : w64 (0 - a) = -a := by unfold inN at h; rw [w64_id (by omega) (by omega)]; omega
theorem neg_in {a : Int} (h : inN a) : inN (-a) := by unfold inN at *; omega
theorem ne_self {α : Type} [BEq α] [LawfulBEq α] (x : α) : (x != x) = false := by simp
theorem dec_f {p : Prop} [Decidable p] (h : ¬p) : decide p = false := decide_eq_false h

theorem fixedOrder (a b c : Int) : law06_FixedOrder a b c = some true := by
  unfold law06_FixedOrder
  by_cases h : inN a ∧ inN b ∧ inN c
  · obtain ⟨ha, hb, hc⟩ := h
    rw [is_true ha, is_true hb, is_true hc]
    rw [lt_eq]
    simp only [Bool.not_true, cond_false]
    rw [Mul_ok ha hb, Mul_ok hb ha, Mul_ok hc hb, neg_ok ha, Mul_ok (neg_in ha) hb, M_neg, ← M_comm a b]
    simp only [Option.bind_some]
    rw [neg_ok (M_in a b), ne_self, ne_self, ne_self, is_true (M_in a b)]
    rw [lt_eq, lt_eq, lt_eq]
    simp only [Bool.not_true, cond_false]
    have h24 : (cond (decide (0 < M a b)) (!((decide (0 < a)) == (decide (0 < b)))) false) = false := by
      by_cases hp : 0 < M a b
      · rw [M_sign hp]; simp
      · rw [dec_f hp]; rfl
    rw [h24, lt_eq, cond_false]
    have h29 : (cond (decide (0 ≤ b)) (cond (cond (decide (a ≤ c)) (decide (M c b < M a b)) false) true (cond (decide (c ≤ a)) (decide (M a b < M c b)) false)) false) = false := by
      by_cases hb0 : 0 ≤ b
      · rw [decide_eq_true hb0, cond_true]
        have e1 : (cond (decide (a ≤ c)) (decide (M c b < M a b)) false) = false := by
          by_cases hac : a ≤ c
          · have := M_mono hb0 hac
            rw [decide_eq_true hac, cond_true, dec_f (by omega)]
          · rw [dec_f hac]; rfl
        have e2 : (cond (decide (c ≤ a)) (decide (M a b < M c b)) false) = false := by
          by_cases hac : c ≤ a
          · have := M_mono hb0 hac
            rw [decide_eq_true hac, cond_true, dec_f (by omega)]
          · rw [dec_f hac]; rfl
        rw [e1, e2]; rfl
      · rw [dec_f hb0]; rfl
    rw [lt_val h29, cond_false]
    have hz : ∀ z : Option (Sum Bool Unit), z = some (.inl true) ∨ z = some (.inr ()) → (Option.bind z fun (z34 : Sum Bool Unit) => sumK z34 fun _ => Option.bind law06_alive fun y54 => some y54) = some true := by
      intro z hz
      rcases hz with rfl | rfl
      · rfl
      · rw [alive_true]; rfl
    apply hz
    by_cases hs : (-1000000000 < a ∧ a < 1000000000) ∧ -1000000000 < b ∧ b < 1000000000
    · obtain ⟨⟨a1, a2⟩, b1, b2⟩ := hs
      rw [decide_eq_true a1, decide_eq_true a2, decide_eq_true b1, decide_eq_true b2]
      rw [lt_eq, lt_eq]
      simp only [cond_true]
      have hr := M_rest a b
      have hM := M_in a b
      unfold inN at hM
      have hab : -1000000000000000000 < a * b ∧ a * b < 1000000000000000000 := by
        have q : a.natAbs * b.natAbs < 1000000000 * 1000000000 := Nat.mul_lt_mul'' (by omega) (by omega)
        rw [abs_mul]
        split <;> omega
      rw [w64_id (x := a * b) (by omega) (by omega), w64_id (x := 1000 * M a b) (by omega) (by omega), w64_id (x := a * b - 1000 * M a b) (by omega) (by omega)]
      generalize M a b = m at *
      generalize a * b = p at *
      rw [lt_eq]
      by_cases hm : m = 1000000000000 ∨ m = -1000000000000
      · have e48 : (cond (m == 1000000000000) true (m == (-1000000000000))) = true := by
          rcases hm with rfl | rfl <;> rfl
        rw [lt_eq, lt_eq, e48, alive_true]
        cases (cond (cond (decide (p - 1000 * m ≤ -1000)) true (decide (1000 ≤ p - 1000 * m))) true (cond (p - 1000 * m != 0) (!decide (p - 1000 * m < 0) == decide (p < 0)) false))
        · exact Or.inr rfl
        · exact Or.inl rfl
      · have hr2 := hr.resolve_left hm
        obtain ⟨r1, r2, r3⟩ := hr2
        have e1 : decide (p - 1000 * m ≤ -1000) = false := dec_f (by omega)
        have e2 : decide (1000 ≤ p - 1000 * m) = false := dec_f (by omega)
        rw [e1, e2, lt_eq]
        simp only [cond_false]
        have e3 : (cond (p - 1000 * m != 0) (!decide (p - 1000 * m < 0) == decide (p < 0)) false) = false := by
          by_cases h0 : p - 1000 * m = 0
          · rw [h0]; rfl
          · have := r3 h0
            rw [show (p - 1000 * m != 0) = true from by simp [h0], cond_true, show decide (p - 1000 * m < 0) = decide (p < 0) from decide_eq_decide.mpr this]
            simp
        rw [e3, lt_eq]
        exact Or.inr rfl
    · right
      have e : (lt (cond (decide ((-1000000000) < a)) (decide (a < 1000000000)) false) fun x35 =>
  lt (cond x35 (decide ((-1000000000) < b)) false) fun x36 => cond x36 (decide (b < 1000000000)) false) = false := by
        simp only [lt]
        by_cases k1 : -1000000000 < a <;> by_cases k2 : a < 1000000000 <;> by_cases k3 : -1000000000 < b <;> by_cases k4 : b < 1000000000 <;> simp [k1, k2, k3, k4]
        exact hs ⟨⟨k1, k2⟩, k3, k4⟩
      simp only [lt] at e ⊢
      rw [e]
      rfl
  · have e : (cond (cond (!(r06_Is a)) true (!(r06_Is b))) true (!(r06_Is c))) = true := by
      by_cases h1 : inN a
      · by_cases h2 : inN b
        · have h3 : ¬ inN c := fun h3 => h ⟨h1, h2, h3⟩
          rw [is_true h1, is_true h2, is_false h3]; rfl
        · rw [is_true h1, is_false h2]; rfl
      · rw [is_false h1]; rfl
    rw [lt_val e, cond_true, alive_true]
    rfl

theorem mul_1000 {a : Int} (ha : inN a) : M a 1000 = a := by
  unfold inN at ha
  unfold M mulP
  rw [show (1000 : Int).natAbs = 1000 from rfl, Nat.mul_div_cancel _ (by decide), Nat.min_eq_right (by omega), show decide ((1000 : Int) < 0) = false from rfl]
  by_cases h : a < 0
  · rw [decide_eq_true h, if_neg (by decide)]; omega
  · rw [dec_f h, if_pos rfl]; omega
theorem mul_1 {a : Int} (ha : inN a) : M a 1 = Int.tdiv a 1000 := by
  unfold inN at ha
  unfold M mulP
  rw [show (1 : Int).natAbs = 1 from rfl, Nat.mul_one, Nat.min_eq_right (by omega), show decide ((1 : Int) < 0) = false from rfl]
  by_cases h : a < 0
  · have e : Int.tdiv a 1000 = - Int.tdiv (-a) 1000 := by rw [Int.neg_tdiv]; omega
    rw [decide_eq_true h, if_neg (by decide), e, tdiv_pos (by omega)]; omega
  · rw [dec_f h, if_pos rfl, tdiv_pos (by omega)]; omega

theorem fixedParts (a b : Int) : law06_FixedParts a b = some true := by
  unfold law06_FixedParts
  by_cases h : inN a ∧ inN b
  · obtain ⟨ha, hb⟩ := h
    have ha2 := ha
    have hb2 := hb
    unfold inN at ha2 hb2
    have sc : a + b = b + a := Int.add_comm a b
    rw [is_true ha, is_true hb]
    simp only [Bool.not_true, cond_false]
    rw [Mul_ok ha (show inN 1000 by decide), Mul_ok ha (show inN 1 by decide), sum2 ha hb, sum2 hb ha, ← sc]
    simp only [Option.bind_some]
    rw [neg_ok hb, sum2 (in_hold (a + b)) (neg_in hb), mul_1000 ha, mul_1 ha, w64_id (x := a + b) (by omega) (by omega)]
    have hd : w64 (Int.tdiv a 1000) = Int.tdiv a 1000 := by
      by_cases h : 0 ≤ a
      · rw [tdiv_pos h]; exact w64_id (by omega) (by omega)
      · have e : Int.tdiv a 1000 = - Int.tdiv (-a) 1000 := by rw [Int.neg_tdiv]; omega
        rw [e, tdiv_pos (by omega)]; exact w64_id (by omega) (by omega)
    rw [hd]
    simp only [Option.bind_some]
    rw [ne_self, ne_self, ne_self, ne_self, lt_eq]
    simp only [cond_false]
    rw [lt_eq]
    simp only [cond_false]
    rw [lt_eq]
    simp only [cond_false]
    by_cases h1 : 1000000000000 < a + b
    · rw [decide_eq_true h1, cond_true, show fixed_hold (a + b) = 1000000000000 from by rw [hold_eq, if_neg (by omega), if_pos h1], alive_true]
      rfl
    · rw [dec_f h1, cond_false, lt_eq]
      by_cases h2 : a + b < -1000000000000
      · rw [decide_eq_true h2, cond_true, show fixed_hold (a + b) = -1000000000000 from by rw [hold_eq, if_pos h2], alive_true]
        rfl
      · rw [dec_f h2, cond_false, hold_in (show inN (a + b) by unfold inN; omega), show a + b + -b = a by omega, hold_in ha, lt_eq, alive_true, beq_self_eq_true, beq_self_eq_true]
        rfl
  · have e : (cond (!(r06_Is a)) true (!(r06_Is b))) = true := by
      by_cases h1 : inN a
      · have h2 : ¬ inN b := fun h2 => h ⟨h1, h2⟩
        rw [is_true h1, is_false h2]; rfl
      · rw [is_false h1]; rfl
    rw [e, cond_true, alive_true]
    rfl

theorem fixedWithin (n a b : Int) : law06_FixedWithin n a b = some true := by
  unfold law06_FixedWithin
  by_cases h : (inN n ∧ inN a) ∧ inN b ∧ a ≤ b
  · obtain ⟨⟨hn, ha⟩, hb, hab⟩ := h
    have hn2 := hn
    have ha2 := ha
    have hb2 := hb
    unfold inN at hn2 ha2 hb2
    rw [is_true hn, is_true ha, is_true hb, dec_f (show ¬ b < a by omega)]
    simp only [Bool.not_true, cond_false]
    rw [lt_eq, lt_eq]
    simp only [cond_false]
    rw [within_ok hn ha hb hab]
    simp only [Option.bind_some]
    have hi : inN (if n < a then a else if b < n then b else n) := by unfold inN; split <;> (try split) <;> omega
    rw [within_ok hi ha hb hab]
    have e1 : (if (if n < a then a else if b < n then b else n) < a then a else if b < (if n < a then a else if b < n then b else n) then b else (if n < a then a else if b < n then b else n)) = (if n < a then a else if b < n then b else n) := by
      split <;> split <;> (try split) <;> omega
    rw [e1, whole_ok hn]
    simp only [Option.bind_some]
    rw [ne_self, ne_self, lt_eq]
    simp only [cond_false]
    obtain ⟨m, hm⟩ : ∃ m, m = (if n < a then a else if b < n then b else n) := ⟨_, rfl⟩
    rw [← hm]
    have c1 : decide (m < a) = false := dec_f (by rw [hm]; split <;> (try split) <;> omega)
    have c2 : decide (b < m) = false := dec_f (by rw [hm]; split <;> (try split) <;> omega)
    have c3 : (!((m == n) == (cond (decide (a ≤ n)) (decide (n ≤ b)) false))) = false := by
      by_cases k : m = n
      · have k2 : a ≤ n ∧ n ≤ b := by rw [hm] at k; revert k; split <;> (try split) <;> intro k <;> omega
        rw [decide_eq_true k2.1, decide_eq_true k2.2, k, beq_self_eq_true]; rfl
      · have k2 : ¬ (a ≤ n ∧ n ≤ b) := fun k2 => k (by rw [hm, if_neg (by omega), if_neg (by omega)])
        rw [show (m == n) = false from by simp [k]]
        by_cases k3 : a ≤ n
        · rw [decide_eq_true k3, dec_f (show ¬ n ≤ b from fun h => k2 ⟨k3, h⟩)]; rfl
        · rw [dec_f k3]; rfl
    have c4 : (cond (cond (m != n) (m != a) false) (m != b) false) = false := by
      rw [hm]; split
      · rw [ne_self]; simp
      · split <;> rw [ne_self]
        · simp
        · simp
    rw [c1, c2, c3, c4, lt_eq]
    simp only [cond_false]
    rw [lt_eq]
    simp only [cond_false]
    rw [lt_eq]
    simp only [cond_false]
    have hr : -1000 < Int.tmod n 1000 := Int.lt_tmod_of_pos n (by decide)
    have hr2 : Int.tmod n 1000 < 1000 := Int.tmod_lt_of_pos n (by decide)
    have hmod : Int.tmod (n - Int.tmod n 1000) 1000 = 0 := by
      have e : n - Int.tmod n 1000 = Int.tdiv n 1000 * 1000 := by
        have := Int.tdiv_mul_add_tmod n 1000
        omega
      rw [e]; exact Int.mul_tmod_left _ _
    rw [hmod, w64_id (x := n - (n - Int.tmod n 1000)) (by omega) (by omega), w64_id (x := n - Int.tmod n 1000 - n) (by omega) (by omega)]
    have e27 : (cond (cond (cond (cond (decide (0 ≤ n)) (decide (0 ≤ n - Int.tmod n 1000)) false) (decide (0 ≤ n - (n - Int.tmod n 1000))) false) (decide (n - (n - Int.tmod n 1000) < 1000)) false) true (cond (cond (cond (decide (n ≤ 0)) (decide (n - Int.tmod n 1000 ≤ 0)) false) (decide (0 ≤ n - Int.tmod n 1000 - n)) false) (decide (n - Int.tmod n 1000 - n < 1000)) false)) = true := by
      by_cases k : 0 ≤ n
      · have := Int.tmod_nonneg 1000 k
        have h2 : Int.tmod n 1000 ≤ n := by rw [tmod_pos k]; omega
        rw [decide_eq_true k, decide_eq_true (show 0 ≤ n - Int.tmod n 1000 by omega), decide_eq_true (show 0 ≤ n - (n - Int.tmod n 1000) by omega), decide_eq_true (show n - (n - Int.tmod n 1000) < 1000 by omega)]
        rfl
      · have := Int.tmod_nonneg 1000 (show 0 ≤ -n by omega)
        have h2 : Int.tmod (-n) 1000 ≤ -n := by rw [tmod_pos (by omega)]; omega
        rw [Int.neg_tmod] at this h2
        rw [dec_f k, decide_eq_true (show n ≤ 0 by omega), decide_eq_true (show n - Int.tmod n 1000 ≤ 0 by omega), decide_eq_true (show 0 ≤ n - Int.tmod n 1000 - n by omega), decide_eq_true (show n - Int.tmod n 1000 - n < 1000 by omega)]
        rfl
    rw [e27, lt_eq, alive_true]
    rfl
  · have e : (cond (cond (cond (!(r06_Is n)) true (!(r06_Is a))) true (!(r06_Is b))) true (decide (b < a))) = true := by
      by_cases h1 : inN n
      · by_cases h2 : inN a
        · by_cases h3 : inN b
          · have h4 : b < a := by
              have : ¬ a ≤ b := fun h4 => h ⟨⟨h1, h2⟩, h3, h4⟩
              omega
            rw [is_true h1, is_true h2, is_true h3, decide_eq_true h4]; rfl
          · rw [is_true h1, is_true h2, is_false h3]; rfl
        · rw [is_true h1, is_false h2]; rfl
      · rw [is_false h1]; rfl
    simp only [lt]
    rw [e, cond_true, alive_true]
    rfl

theorem fixedOrder_walk (a b c : Int) (w : World) : Calls Try.prog 4 ⟨[.int .i64 a, .int .i64 b, .int .i64 c]⟩ w (V.Pure (.bool true) w) := law06_FixedOrder_w a b c true (fixedOrder a b c) w
theorem fixedParts_walk (a b : Int) (w : World) : Calls Try.prog 5 ⟨[.int .i64 a, .int .i64 b]⟩ w (V.Pure (.bool true) w) := law06_FixedParts_w a b true (fixedParts a b) w
theorem fixedWithin_walk (n a b : Int) (w : World) : Calls Try.prog 6 ⟨[.int .i64 n, .int .i64 a, .int .i64 b]⟩ w (V.Pure (.bool true) w) := law06_FixedWithin_w n a b true (fixedWithin n a b) w
end Go.Proofs.Ytbealjlgbfpadaa

/-
  Numbers in a text: what two readers of numbers compute is the same. Plain lemmas on bytes first.
-/
import Derived.Test.YtfancfogkhclfaaGreatDoorVP
import Derived.Test.YtfancfogkhclfaaGreatDoorM
set_option linter.unusedVariables false
namespace Go.V
open Go
def isd (b : UInt8) : Bool := decide (48 ≤ b.toNat) && decide (b.toNat ≤ 57)
def tst (p : UInt8 → Bool) (s : Str) (i : Nat) : Bool := match s[i]? with
  | some b => p b
  | none => false
def pk (s : Str) (i : Nat) (d : Int) : Int := match s[i]? with
  | some b => (b.toNat : Int)
  | none => d
def isb (c : Nat) (b : UInt8) : Bool := b.toNat == c
theorem pk_is (s : Str) (i : Nat) (d : Int) (c : Nat) (hd : d ≠ c) : (pk s i d == (c : Int)) = tst (isb c) s i := by
  unfold pk tst isb
  cases s[i]? with
  | none => exact beq_eq_false_iff_ne.2 hd
  | some b =>
    show ((b.toNat : Int) == (c : Int)) = (b.toNat == c)
    by_cases h : b.toNat = c
    · rw [h]; simp
    · rw [beq_eq_false_iff_ne.2 h]
      exact beq_eq_false_iff_ne.2 (by omega)
theorem pk_dig (s : Str) (i : Nat) (d : Int) (hd : d < 48) : (cond (decide (48 ≤ pk s i d)) (decide (pk s i d ≤ 57)) false) = tst isd s i := by
  unfold pk tst isd
  cases s[i]? with
  | none => show cond (decide (48 ≤ d)) _ _ = _; rw [decide_eq_false (by omega)]; rfl
  | some b =>
    show cond (decide (48 ≤ (b.toNat : Int))) (decide ((b.toNat : Int) ≤ 57)) false = _
    by_cases h : 48 ≤ b.toNat <;> by_cases h2 : b.toNat ≤ 57
    · have h3 : (48 : Int) ≤ (b.toNat : Int) := by omega
      have h4 : (b.toNat : Int) ≤ 57 := by omega
      simp [h, h2, h3, h4]
    · have h3 : (48 : Int) ≤ (b.toNat : Int) := by omega
      have h4 : ¬ (b.toNat : Int) ≤ 57 := by omega
      simp [h, h2, h3, h4]
    · have h3 : ¬ (48 : Int) ≤ (b.toNat : Int) := by omega
      simp [h, h3]
    · have h3 : ¬ (48 : Int) ≤ (b.toNat : Int) := by omega
      simp [h, h3]
theorem bat_pk (s : Str) (i : Nat) (d : Int) (h : i < s.length) : bat s (i : Int) = pk s i d := by
  rw [bat_nat s i h]
  unfold pk
  rw [List.getElem?_eq_getElem h]
theorem pk_byte (s : Str) (i : Nat) (d : Int) (hd : -1 ≤ d ∧ d < 256) : -1 ≤ pk s i d ∧ pk s i d < 256 := by
  unfold pk
  cases s[i]? with
  | none => exact hd
  | some b =>
    have := b.toNat_lt
    show -1 ≤ (b.toNat : Int) ∧ (b.toNat : Int) < 256
    omega
/-- How many digits stand from 'i' on. -/
def digN (s : Str) (i : Nat) : Nat := ((s.drop i).takeWhile isd).length
def digS (s : Str) (i : Nat) : Str := (s.drop i).takeWhile isd
theorem drop_get {s : Str} {i : Nat} (h : i < s.length) : s.drop i = s[i] :: s.drop (i + 1) := List.drop_eq_getElem_cons h
theorem dig_t {s : Str} {i : Nat} (h : tst isd s i = true) : ∃ hi : i < s.length, digS s i = s[i] :: digS s (i + 1) := by
  unfold tst at h
  cases hs : s[i]? with
  | none => rw [hs] at h; cases h
  | some b =>
    obtain ⟨hi, hb⟩ := List.getElem?_eq_some_iff.1 hs
    rw [hs] at h
    refine ⟨hi, ?_⟩
    unfold digS
    rw [drop_get hi, List.takeWhile_cons, hb]
    rw [if_pos h]
theorem dig_f {s : Str} {i : Nat} (h : tst isd s i = false) : digS s i = [] := by
  unfold tst at h
  cases hs : s[i]? with
  | none =>
    have : s.length ≤ i := List.getElem?_eq_none_iff.1 hs
    unfold digS
    rw [List.drop_eq_nil_of_le this]
    rfl
  | some b =>
    obtain ⟨hi, hb⟩ := List.getElem?_eq_some_iff.1 hs
    rw [hs] at h
    unfold digS
    rw [drop_get hi, List.takeWhile_cons, hb, if_neg (by rw [show isd b = false from h]; exact Bool.false_ne_true)]
theorem dig_le (s : Str) (i : Nat) (h : i ≤ s.length) : i + (digS s i).length ≤ s.length := by
  have h1 : (digS s i).length ≤ (s.drop i).length := (List.takeWhile_sublist _).length_le
  rw [List.length_drop] at h1
  omega
theorem dig_stop (s : Str) (i : Nat) : tst isd s (i + (digS s i).length) = false := by
  suffices h : ∀ (k i : Nat), k = (digS s i).length → tst isd s (i + k) = false from h _ i rfl
  intro k
  induction k with
  | zero =>
    intro i hk
    rw [Nat.add_zero]
    cases h : tst isd s i with
    | false => rfl
    | true =>
      obtain ⟨_, h2⟩ := dig_t h
      rw [h2] at hk
      cases hk
  | succ k ih =>
    intro i hk
    cases h : tst isd s i with
    | false => rw [dig_f h] at hk; cases hk
    | true =>
      obtain ⟨_, h2⟩ := dig_t h
      rw [h2] at hk
      rw [show i + (k + 1) = i + 1 + k from by omega]
      exact ih (i + 1) (by simpa using hk)
theorem dig_all (s : Str) (i : Nat) : ∀ b ∈ digS s i, isd b = true := fun b hb => List.all_eq_true.1 List.all_takeWhile b hb
theorem dig_sub (s : Str) (i : Nat) : digS s i = (s.drop i).take (digS s i).length := List.prefix_iff_eq_take.1 (List.takeWhile_prefix isd)
end Go.V
namespace Go.Proofs.YtfancfogkhclfaaGreatDoor
open Go Go.V
set_option maxRecDepth 100000
theorem w64_add {i n : Nat} (h : i + n < 4611686018427387904) : w64 ((i : Int) + (n : Int)) = ((i + n : Nat) : Int) := by rw [w64_id (by omega) (by omega)]; omega
theorem peek_nat (s : Str) (i n : Nat) (h : i + n < 4611686018427387904) : token_scanner_peek s (i : Int) (n : Int) = some (pk s (i + n) (-1)) := by
  unfold token_scanner_peek
  rw [w64_add h]
  by_cases hl : i + n < s.length
  · rw [lt_dec hl, chk_ix hl, bat_pk s (i + n) (-1) hl]
    have := pk_byte s (i + n) (-1) (by omega)
    rw [w64_id (by omega) (by omega)]
    rfl
  · rw [ge_dec (by omega)]
    show some (-1) = _
    unfold pk
    rw [List.getElem?_eq_none (by omega)]
theorem at_nat (s : Str) (i : Nat) : r02_At s (i : Int) = some (pk s i 0) := by
  unfold r02_At
  by_cases hl : i < s.length
  · rw [lt_dec hl, chk_ix hl, bat_pk s i 0 hl]
    rfl
  · rw [ge_dec (by omega)]
    show some 0 = _
    unfold pk
    rw [List.getElem?_eq_none (by omega)]
theorem tdig (s : Str) (i : Nat) : token_digit (pk s i (-1)) = tst isd s i := pk_dig s i (-1) (by omega)
theorem rdig (s : Str) (i : Nat) : r02_Digit (pk s i 0) = tst isd s i := pk_dig s i 0 (by omega)
theorem while_ok (m : Nat) (s : Str) (hs : s.length < 1000000) : ∀ (kk i : Nat), s.length - i < kk → i ≤ s.length → token_scanner_while_2_L1 m s kk (i : Int) = some ((i + (digS s i).length : Nat) : Int) := by
  intro kk
  induction kk with
  | zero => intro i h; omega
  | succ kk ih =>
    intro i h hi
    rw [token_scanner_while_2_L1]
    have h0 := peek_nat s i 0 (by omega)
    rw [show ((0 : Nat) : Int) = 0 from rfl, Nat.add_zero] at h0
    rw [h0]
    simp only [Option.bind_some]
    rw [tdig]
    cases ht : tst isd s i with
    | false => rw [dig_f ht]; rfl
    | true =>
      obtain ⟨hl, h2⟩ := dig_t ht
      rw [h2, w64_ix (by omega)]
      simp only [cond_true]
      rw [ih (i + 1) (by omega) (by omega)]
      congr 2
      simp only [List.length_cons]
      omega
theorem digits_ok (m : Nat) (s : Str) (hs : s.length < 1000000) : ∀ (kk i : Nat), s.length - i < kk → i ≤ s.length → r02_digits_L1 m s kk (i : Int) = some ((i + (digS s i).length : Nat) : Int) := by
  intro kk
  induction kk with
  | zero => intro i h; omega
  | succ kk ih =>
    intro i h hi
    rw [r02_digits_L1, at_nat]
    simp only [Option.bind_some]
    rw [rdig]
    cases ht : tst isd s i with
    | false => rw [dig_f ht]; rfl
    | true =>
      obtain ⟨hl, h2⟩ := dig_t ht
      rw [h2, w64_ix (by omega)]
      simp only [cond_true]
      rw [ih (i + 1) (by omega) (by omega)]
      congr 2
      simp only [List.length_cons]
      omega

/-! ## Where a number begins and ends -/
def isg (b : UInt8) : Bool := isb 43 b || isb 45 b
def iee (b : UInt8) : Bool := isb 101 b || isb 69 b
theorem tst_or (p q : UInt8 → Bool) (s : Str) (i : Nat) : tst (fun b => p b || q b) s i = cond (tst p s i) true (tst q s i) := by
  unfold tst
  cases s[i]? with
  | none => rfl
  | some b => show (p b || q b) = cond (p b) true (q b); cases p b <;> rfl
theorem sgn_p (s : Str) (i : Nat) (d : Int) (hd : d ≤ 0) : cond (pk s i d == 43) true (pk s i d == 45) = tst isg s i := by
  rw [show (43 : Int) = ((43 : Nat) : Int) from rfl, show (45 : Int) = ((45 : Nat) : Int) from rfl, pk_is _ _ _ _ (by omega), pk_is _ _ _ _ (by omega)]
  exact (tst_or (isb 43) (isb 45) s i).symm
def skipS (s : Str) (i : Nat) : Nat := cond (tst isg s i) (i + 1) i
def numAt (s : Str) (i : Nat) : Bool := let j := skipS s i; tst isd s (cond (tst (isb 46) s j) (j + 1) j)
theorem number_ok (s : Str) (hs : s.length < 1000000) : token_scanner_number s 0 = some (numAt s 0) := by
  unfold token_scanner_number numAt skipS
  have h0 := peek_nat s 0 0 (by omega)
  have h1 := peek_nat s 0 1 (by omega)
  have h2 := peek_nat s 0 2 (by omega)
  simp only [Nat.zero_add, Int.natCast_zero, Int.natCast_one, show ((2 : Nat) : Int) = 2 from rfl] at h0 h1 h2
  rw [h0]
  simp only [Option.bind_some]
  rw [sgn_p s 0 (-1) (by omega)]
  cases tst isg s 0
  · simp only [cond_false, Option.bind_some]
    rw [h0]
    simp only [Option.bind_some]
    rw [show (46 : Int) = ((46 : Nat) : Int) from rfl, pk_is _ _ _ _ (by omega)]
    cases tst (isb 46) s 0
    · simp only [cond_false, Option.bind_some]
      rw [h0]
      simp only [Option.bind_some, tdig]
    · simp only [cond_true, Option.bind_some, show w64 ((0 : Int) + 1) = 1 from by decide]
      rw [h1]
      simp only [Option.bind_some, tdig]
  · simp only [cond_true, Option.bind_some]
    rw [h1]
    simp only [Option.bind_some]
    rw [show (46 : Int) = ((46 : Nat) : Int) from rfl, pk_is _ _ _ _ (by omega)]
    cases tst (isb 46) s 1
    · simp only [cond_false, Option.bind_some]
      rw [h1]
      simp only [Option.bind_some, tdig, Nat.zero_add]
    · simp only [cond_true, Option.bind_some, show w64 ((1 : Int) + 1) = 2 from by decide]
      rw [h2]
      simp only [Option.bind_some, tdig]
theorem numberAt_ok (s : Str) : r02_NumberAt s 0 = some (numAt s 0) := by
  unfold r02_NumberAt numAt skipS
  have h0 := at_nat s 0
  have h1 := at_nat s 1
  have h2 := at_nat s 2
  simp only [Int.natCast_zero, Int.natCast_one, show ((2 : Nat) : Int) = 2 from rfl] at h0 h1 h2
  rw [h0]
  simp only [Option.bind_some]
  rw [sgn_p s 0 0 (by omega)]
  cases tst isg s 0
  · simp only [cond_false, Option.bind_some]
    rw [h0]
    simp only [Option.bind_some]
    rw [show (46 : Int) = ((46 : Nat) : Int) from rfl, pk_is _ _ _ _ (by omega)]
    cases tst (isb 46) s 0
    · simp only [cond_false, Option.bind_some]
      rw [h0]
      simp only [Option.bind_some, rdig]
    · simp only [cond_true, Option.bind_some, show w64 ((0 : Int) + 1) = 1 from by decide]
      rw [h1]
      simp only [Option.bind_some, rdig]
  · simp only [cond_true, Option.bind_some, show w64 ((0 : Int) + 1) = 1 from by decide]
    rw [h1]
    simp only [Option.bind_some]
    rw [show (46 : Int) = ((46 : Nat) : Int) from rfl, pk_is _ _ _ _ (by omega)]
    cases tst (isb 46) s 1
    · simp only [cond_false, Option.bind_some]
      rw [h1]
      simp only [Option.bind_some, rdig, Nat.zero_add]
    · simp only [cond_true, Option.bind_some, show w64 ((1 : Int) + 1) = 2 from by decide]
      rw [h2]
      simp only [Option.bind_some, rdig]
/-- The end of the digits before and behind the point; whether it is whole. -/
def endM (s : Str) : Nat × Bool :=
  let y := skipS s 0 + (digS s (skipS s 0)).length
  cond (cond (tst (isb 46) s y) (tst isd s (y + 1)) false) (y + 1 + (digS s (y + 1)).length, false) (y, true)
def endE (s : Str) (e : Nat) (wh : Bool) : Nat × Bool :=
  let j := cond (tst isg s (e + 1)) (e + 2) (e + 1)
  cond (tst iee s e) (cond (tst isd s j) (j + (digS s j).length, false) (e, wh)) (e, wh)
theorem skip_le (s : Str) (i : Nat) (h : i ≤ s.length) : skipS s i ≤ s.length := by
  unfold skipS
  cases ht : tst isg s i with
  | false => exact h
  | true =>
    unfold tst at ht
    cases hs : s[i]? with
    | none => rw [hs] at ht; cases ht
    | some b => obtain ⟨hi, _⟩ := List.getElem?_eq_some_iff.1 hs; exact hi
theorem tst_lt {p : UInt8 → Bool} {s : Str} {i : Nat} (h : tst p s i = true) : i < s.length := by
  unfold tst at h
  cases hs : s[i]? with
  | none => rw [hs] at h; cases h
  | some b => exact (List.getElem?_eq_some_iff.1 hs).1
theorem endM_le (s : Str) : (endM s).1 ≤ s.length := by
  unfold endM
  have h1 := skip_le s 0 (Nat.zero_le _)
  have h2 := dig_le s _ h1
  dsimp only
  cases ht : tst (isb 46) s (skipS s 0 + (digS s (skipS s 0)).length) with
  | false => exact h2
  | true =>
    cases ht2 : tst isd s (skipS s 0 + (digS s (skipS s 0)).length + 1) with
    | false => exact h2
    | true => exact dig_le s _ (tst_lt ht)
theorem ee_p (s : Str) (i : Nat) (d : Int) (hd : d ≤ 0) : cond (pk s i d == 101) true (pk s i d == 69) = tst iee s i := by
  rw [show (101 : Int) = ((101 : Nat) : Int) from rfl, show (69 : Int) = ((69 : Nat) : Int) from rfl, pk_is _ _ _ _ (by omega), pk_is _ _ _ _ (by omega)]
  exact (tst_or (isb 101) (isb 69) s i).symm
def numEnd (s : Str) : Nat × Bool := endE s (endM s).1 (endM s).2
theorem endM_eq (s : Str) (y : Nat) (hy : y = skipS s 0 + (digS s (skipS s 0)).length) : endM s = cond (cond (tst (isb 46) s y) (tst isd s (y + 1)) false) (y + 1 + (digS s (y + 1)).length, false) (y, true) := by rw [hy]; rfl
theorem end_r (m : Nat) (s : Str) (hs : s.length < 1000000) (hm : s.length < m) : r02_NumberEnd m s 0 = some (((numEnd s).1 : Int), (numEnd s).2) := by
  unfold r02_NumberEnd
  have h0 := at_nat s 0
  simp only [Int.natCast_zero] at h0
  rw [h0]
  simp only [Option.bind_some]
  rw [sgn_p s 0 0 (by omega)]
  have e1 : (cond (tst isg s 0) (some (w64 ((0 : Int) + 1))) (some 0) : Option Int) = some ((skipS s 0 : Nat) : Int) := by
    unfold skipS
    cases tst isg s 0 <;> rfl
  rw [e1]
  simp only [Option.bind_some]
  have h1 := skip_le s 0 (Nat.zero_le _)
  have h2 := dig_le s _ h1
  unfold r02_digits
  rw [digits_ok m s hs m _ (by omega) h1]
  simp only [Option.bind_some]
  unfold numEnd
  obtain ⟨y, hy⟩ : ∃ y, y = skipS s 0 + (digS s (skipS s 0)).length := ⟨_, rfl⟩
  have eM := endM_eq s y hy
  rw [← hy] at h2 ⊢
  have hM : (Option.bind (r02_At s (y : Int)) fun y17 => Option.bind (cond (y17 == 46) (r02_At s (w64 ((y : Int) + 1))) (some default)) fun y18 =>
      cond (cond (y17 == 46) (r02_Digit y18) false) (Option.bind (Option.bind (r02_digits_L1 m s m (w64 ((y : Int) + 1))) fun z3 => some z3) fun y23 => some (y23, false)) (some ((y : Int), true))) = some (((endM s).1 : Int), (endM s).2) := by
    rw [at_nat, eM]
    simp only [Option.bind_some]
    rw [show (46 : Int) = ((46 : Nat) : Int) from rfl, pk_is _ _ _ _ (by omega)]
    cases ht : tst (isb 46) s y with
    | false => rfl
    | true =>
      have hl := tst_lt ht
      simp only [cond_true]
      rw [w64_ix (by omega), at_nat]
      simp only [Option.bind_some]
      rw [rdig, digits_ok m s hs m (y + 1) (by omega) (by omega)]
      cases tst isd s (y + 1) <;> rfl
  rw [hM]
  simp only [Option.bind_some]
  have hle := endM_le s
  generalize endM s = q at hle
  obtain ⟨e, wh⟩ := q
  simp only at hle ⊢
  rw [at_nat]
  simp only [Option.bind_some]
  rw [ee_p s e 0 (by omega)]
  unfold endE
  cases ht : tst iee s e with
  | false => rfl
  | true =>
    have hl := tst_lt ht
    simp only [cond_true]
    rw [w64_ix (by omega), at_nat]
    simp only [Option.bind_some]
    rw [sgn_p s (e + 1) 0 (by omega), w64_ix (by omega)]
    cases hg : tst isg s (e + 1) with
    | false =>
      simp only [cond_false, Option.bind_some]
      rw [at_nat, digits_ok m s hs m (e + 1) (by omega) (by omega)]
      simp only [Option.bind_some]
      rw [rdig]
      cases tst isd s (e + 1) <;> rfl
    | true =>
      have hl2 := tst_lt hg
      simp only [cond_true, Option.bind_some]
      rw [at_nat, digits_ok m s hs m (e + 1 + 1) (by omega) (by omega)]
      simp only [Option.bind_some]
      rw [rdig]
      cases tst isd s (e + 1 + 1) <;> rfl
theorem end_t (m : Nat) (s : Str) (hs : s.length < 1000000) (hm : s.length < m) : token_scanner_figures m s 0 = some ((numEnd s).2, ((numEnd s).1 : Int)) := by
  unfold token_scanner_figures
  have pk0 : ∀ i : Nat, i < 2000000 → token_scanner_peek s (i : Int) 0 = some (pk s i (-1)) := fun i hi => peek_nat s i 0 (by omega)
  have pk1 : ∀ i : Nat, i < 2000000 → token_scanner_peek s (i : Int) 1 = some (pk s (i + 1) (-1)) := fun i hi => peek_nat s i 1 (by omega)
  have pk2 : ∀ i : Nat, i < 2000000 → token_scanner_peek s (i : Int) 2 = some (pk s (i + 2) (-1)) := fun i hi => peek_nat s i 2 (by omega)
  have h0 : token_scanner_peek s 0 0 = some (pk s 0 (-1)) := pk0 0 (by omega)
  rw [h0]
  simp only [Option.bind_some]
  rw [sgn_p s 0 (-1) (by omega)]
  have e1 : (cond (tst isg s 0) (some (w64 ((0 : Int) + 1))) (some 0) : Option Int) = some ((skipS s 0 : Nat) : Int) := by
    unfold skipS
    cases tst isg s 0 <;> rfl
  rw [e1]
  simp only [Option.bind_some]
  have h1 := skip_le s 0 (Nat.zero_le _)
  have h2 := dig_le s _ h1
  unfold token_scanner_while_2
  rw [while_ok m s hs m _ (by omega) h1]
  simp only [Option.bind_some]
  unfold numEnd
  obtain ⟨y, hy⟩ : ∃ y, y = skipS s 0 + (digS s (skipS s 0)).length := ⟨_, rfl⟩
  have eM := endM_eq s y hy
  rw [← hy] at h2 ⊢
  have hM : (Option.bind (token_scanner_peek s (y : Int) 0) fun y21 => Option.bind (cond (y21 == 46) (token_scanner_peek s (y : Int) 1) (some default)) fun y22 =>
      cond (cond (y21 == 46) (token_digit y22) false) (Option.bind (token_scanner_while_2_L1 m s m (w64 ((y : Int) + 1))) fun y31 => some (false, y31)) (some (true, (y : Int)))) = some ((endM s).2, ((endM s).1 : Int)) := by
    rw [pk0 y (by omega), eM]
    simp only [Option.bind_some]
    rw [show (46 : Int) = ((46 : Nat) : Int) from rfl, pk_is _ _ _ _ (by omega)]
    cases ht : tst (isb 46) s y with
    | false => rfl
    | true =>
      have hl := tst_lt ht
      simp only [cond_true]
      rw [w64_ix (by omega), pk1 y (by omega)]
      simp only [Option.bind_some]
      rw [tdig, while_ok m s hs m (y + 1) (by omega) (by omega)]
      cases tst isd s (y + 1) <;> rfl
  rw [hM]
  simp only [Option.bind_some]
  have hle := endM_le s
  generalize endM s = q at hle
  obtain ⟨e, wh⟩ := q
  simp only at hle ⊢
  rw [pk0 e (by omega), pk1 e (by omega)]
  simp only [Option.bind_some]
  have hee := ee_p s e (-1) (by omega)
  unfold endE
  have hcc : (cond (pk s e (-1) == 101) (some default) (some (pk s e (-1))) : Option Int) = some (cond (pk s e (-1) == 101) default (pk s e (-1))) := by cases (pk s e (-1) == 101) <;> rfl
  rw [hcc]
  simp only [Option.bind_some]
  have hc2 : cond (pk s e (-1) == 101) true (cond (pk s e (-1) == 101) default (pk s e (-1)) == 69) = tst iee s e := by
    rw [← hee]
    cases (pk s e (-1) == 101) <;> rfl
  rw [hc2]
  cases ht : tst iee s e with
  | false => rfl
  | true =>
    have hl := tst_lt ht
    simp only [cond_true]
    rw [sgn_p s (e + 1) (-1) (by omega)]
    cases hg : tst isg s (e + 1) with
    | false =>
      simp only [cond_false, Option.bind_some]
      rw [pk1 e (by omega), w64_ix (by omega), while_ok m s hs m (e + 1) (by omega) (by omega)]
      simp only [Option.bind_some]
      rw [tdig]
      cases tst isd s (e + 1) <;> rfl
    | true =>
      have hl2 := tst_lt hg
      simp only [cond_true, Option.bind_some]
      rw [pk2 e (by omega), show w64 ((e : Int) + 2) = ((e + 2 : Nat) : Int) from w64_add (n := 2) (by omega), while_ok m s hs m (e + 2) (by omega) (by omega)]
      simp only [Option.bind_some]
      rw [tdig]
      cases tst isd s (e + 2) <;> rfl
end Go.Proofs.YtfancfogkhclfaaGreatDoor

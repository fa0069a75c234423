/-
 Numbers in a text: what two readers of numbers compute is the same. Plain lemmas on bytes first.
-/
import Derived.Test.YtemchjneoalnoaaGreatDoorVP
import Derived.Test.YtemchjneoalnoaaGreatDoorM
set_option linter.unusedVariables false
namespace Go.V
open Go
def isd (b : UInt8) : Bool := decide (48 ≤ b.toNat) && decide (b.toNat ≤ 57)
def tst (p : UInt8 → Bool) (s : Str) (i : Nat) : Bool := match s[i]? with
 | some b => p b
 | none => false
def pk (s : Str) (i : Nat) (d : Int) : Int := match s[i]? with
 | some b => (b.toNat : Int)
 | none => d
def isb (c : Nat) (b : UInt8) : Bool := b.toNat == c
theorem pk_is (s : Str) (i : Nat) (d : Int) (c : Nat) (hd : d ≠ c) : (pk s i d == (c : Int)) = tst (isb c) s i := by
 unfold pk tst isb
 cases s[i]? with
 | none => exact beq_eq_false_iff_ne.2 hd
 | some b =>
  show ((b.toNat : Int) == (c : Int)) = (b.toNat == c)
  by_cases h : b.toNat = c
  ·rw [h]; simp
  ·rw [beq_eq_false_iff_ne.2 h]
   exact beq_eq_false_iff_ne.2 (by omega)
theorem pk_dig (s : Str) (i : Nat) (d : Int) (hd : d < 48) : (cond (decide (48 ≤ pk s i d)) (decide (pk s i d ≤ 57)) false) = tst isd s i := by
 unfold pk tst isd
 cases s[i]? with
 | none => show cond (decide (48 ≤ d)) _ _ = _; rw [decide_eq_false (by omega)]; rfl
 | some b =>
  show cond (decide (48 ≤ (b.toNat : Int))) (decide ((b.toNat : Int) ≤ 57)) false = _
  by_cases h : 48 ≤ b.toNat <;> by_cases h2 : b.toNat ≤ 57
  ·have h3 : (48 : Int) ≤ (b.toNat : Int) := by omega
   have h4 : (b.toNat : Int) ≤ 57 := by omega
   simp [h, h2, h3, h4]
  ·have h3 : (48 : Int) ≤ (b.toNat : Int) := by omega
   have h4 : ¬ (b.toNat : Int) ≤ 57 := by omega
   simp [h, h2, h3, h4]
  ·have h3 : ¬ (48 : Int) ≤ (b.toNat : Int) := by omega
   simp [h, h3]
  ·have h3 : ¬ (48 : Int) ≤ (b.toNat : Int) := by omega
   simp [h, h3]
theorem bat_pk (s : Str) (i : Nat) (d : Int) (h : i < s.length) : bat s (i : Int) = pk s i d := by
 rw [bat_nat s i h]
 unfold pk
 rw [List.getElem?_eq_getElem h]
def digS (s : Str) (i : Nat) : Str := (s.drop i).takeWhile isd
theorem drop_get {s : Str} {i : Nat} (h : i < s.length) : s.drop i = s[i] :: s.drop (i + 1) := List.drop_eq_getElem_cons h
theorem dig_t {s : Str} {i : Nat} (h : tst isd s i = true) : ∃ hi : i < s.length, digS s i = s[i] :: digS s (i + 1) := by
 unfold tst at h
 cases hs : s[i]? with
 | none => rw [hs] at h; cases h
 | some b =>
  obtain ⟨hi, hb⟩ := List.getElem?_eq_some_iff.1 hs
  rw [hs] at h
  refine ⟨hi, ?_⟩
  unfold digS
  rw [drop_get hi, List.takeWhile_cons, hb]
  rw [if_pos h]
theorem dig_f {s : Str} {i : Nat} (h : tst isd s i = false) : digS s i = [] := by
 unfold tst at h
 cases hs : s[i]? with
 | none =>
  have : s.length ≤ i := List.getElem?_eq_none_iff.1 hs
  unfold digS
  rw [List.drop_eq_nil_of_le this]
  rfl
 | some b =>
  obtain ⟨hi, hb⟩ := List.getElem?_eq_some_iff.1 hs
  rw [hs] at h
  unfold digS
  rw [drop_get hi, List.takeWhile_cons, hb, if_neg (by rw [show isd b = false from h]; exact Bool.false_ne_true)]
theorem dig_le (s : Str) (i : Nat) (h : i ≤ s.length) : i + (digS s i).length ≤ s.length := by
 have h1 : (digS s i).length ≤ (s.drop i).length := (List.takeWhile_sublist _).length_le
 rw [List.length_drop] at h1
 omega
theorem dig_all (s : Str) (i : Nat) : ∀ b ∈ digS s i, isd b = true := fun b hb => List.all_eq_true.1 List.all_takeWhile b hb
end Go.V
namespace Go.Proofs.YtemchjneoalnoaaGreatDoor
open Go Go.V
set_option maxRecDepth 100000
theorem at_nat (s : Str) (i : Nat) : r02_At s (i : Int) = some (pk s i 0) := by
 unfold r02_At
 by_cases hl : i < s.length
 ·rw [lt_dec hl, chk_ix hl, bat_pk s i 0 hl]
  rfl
 ·rw [ge_dec (by omega)]
  show some 0 = _
  unfold pk
  rw [List.getElem?_eq_none (by omega)]
theorem rdig (s : Str) (i : Nat) : r02_Digit (pk s i 0) = tst isd s i := pk_dig s i 0 (by omega)
theorem digits_ok (m : Nat) (s : Str) (hs : s.length < 1000000) : ∀ (kk i : Nat), s.length - i < kk → i ≤ s.length → r02_digits_L1 m s kk (i : Int) = some ((i + (digS s i).length : Nat) : Int) := by
 intro kk
 induction kk with
 | zero => intro i h; omega
 | succ kk ih =>
  intro i h hi
  rw [r02_digits_L1, at_nat]
  simp only [Option.bind_some]
  rw [rdig]
  cases ht : tst isd s i with
  | false => rw [dig_f ht]; rfl
  | true =>
   obtain ⟨hl, h2⟩ := dig_t ht
   rw [h2, w64_ix (by omega)]
   simp only [cond_true]
   rw [ih (i + 1) (by omega) (by omega)]
   congr 2
   simp only [List.length_cons]
   omega
def isg (b : UInt8) : Bool := isb 43 b || isb 45 b
def iee (b : UInt8) : Bool := isb 101 b || isb 69 b
theorem tst_or (p q : UInt8 → Bool) (s : Str) (i : Nat) : tst (fun b => p b || q b) s i = cond (tst p s i) true (tst q s i) := by
 unfold tst
 cases s[i]? with
 | none => rfl
 | some b => show (p b || q b) = cond (p b) true (q b); cases p b <;> rfl
theorem sgn_p (s : Str) (i : Nat) (d : Int) (hd : d ≤ 0) : cond (pk s i d == 43) true (pk s i d == 45) = tst isg s i := by
 rw [show (43 : Int) = ((43 : Nat) : Int) from rfl, show (45 : Int) = ((45 : Nat) : Int) from rfl, pk_is _ _ _ _ (by omega), pk_is _ _ _ _ (by omega)]
 exact (tst_or (isb 43) (isb 45) s i).symm
def skipS (s : Str) (i : Nat) : Nat := cond (tst isg s i) (i + 1) i
def numAt (s : Str) (i : Nat) : Bool := let j := skipS s i; tst isd s (cond (tst (isb 46) s j) (j + 1) j)
def endM (s : Str) : Nat × Bool :=
 let y := skipS s 0 + (digS s (skipS s 0)).length
 cond (cond (tst (isb 46) s y) (tst isd s (y + 1)) false) (y + 1 + (digS s (y + 1)).length, false) (y, true)
def endE (s : Str) (e : Nat) (wh : Bool) : Nat × Bool :=
 let j := cond (tst isg s (e + 1)) (e + 2) (e + 1)
 cond (tst iee s e) (cond (tst isd s j) (j + (digS s j).length, false) (e, wh)) (e, wh)
theorem skip_le (s : Str) (i : Nat) (h : i ≤ s.length) : skipS s i ≤ s.length := by
 unfold skipS
 cases ht : tst isg s i with
 | false => exact h
 | true =>
  unfold tst at ht
  cases hs : s[i]? with
  | none => rw [hs] at ht; cases ht
  | some b => obtain ⟨hi, _⟩ := List.getElem?_eq_some_iff.1 hs; exact hi
theorem tst_lt {p : UInt8 → Bool} {s : Str} {i : Nat} (h : tst p s i = true) : i < s.length := by
 unfold tst at h
 cases hs : s[i]? with
 | none => rw [hs] at h; cases h
 | some b => exact (List.getElem?_eq_some_iff.1 hs).1
theorem ee_p (s : Str) (i : Nat) (d : Int) (hd : d ≤ 0) : cond (pk s i d == 101) true (pk s i d == 69) = tst iee s i := by
 rw [show (101 : Int) = ((101 : Nat) : Int) from rfl, show (69 : Int) = ((69 : Nat) : Int) from rfl, pk_is _ _ _ _ (by omega), pk_is _ _ _ _ (by omega)]
 exact (tst_or (isb 101) (isb 69) s i).symm
def numEnd (s : Str) : Nat × Bool := endE s (endM s).1 (endM s).2
theorem endM_eq (s : Str) (y : Nat) (hy : y = skipS s 0 + (digS s (skipS s 0)).length) : endM s = cond (cond (tst (isb 46) s y) (tst isd s (y + 1)) false) (y + 1 + (digS s (y + 1)).length, false) (y, true) := by rw [hy]; rfl
end Go.Proofs.YtemchjneoalnoaaGreatDoor

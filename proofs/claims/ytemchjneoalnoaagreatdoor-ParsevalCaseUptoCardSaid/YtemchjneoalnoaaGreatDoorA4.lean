/-
 Names, spaces and numbers anywhere in a text, as the reference reads them. No program in sight.
-/
import Derived.Test.YtemchjneoalnoaaGreatDoorA3
import Derived.KernelRfl
set_option linter.unusedVariables false
namespace Go.Proofs.YtemchjneoalnoaaGreatDoor
open Go Go.V
set_option maxRecDepth 100000
theorem nat_all {p : Nat → Bool} {k n : Nat} (h : ((List.range k).all p) = true) (hn : n < k) : p n = true := List.all_eq_true.1 h n (List.mem_range.2 hn)
theorem pk_tst (f : Int → Bool) (s : Str) (i : Nat) (d : Int) (h : f d = false) : f (pk s i d) = tst (fun b => f (b.toNat : Int)) s i := by
 unfold pk tst
 cases s[i]? with
 | none => exact h
 | some b => rfl
theorem sub_byte {s : Str} {i : Nat} (h : i < s.length) : sub s (i : Int) ((i + 1 : Nat) : Int) = [s[i]] := by
 unfold sub
 rw [Int.toNat_natCast, Int.toNat_natCast, show i + 1 - i = 1 from by omega, drop_get h]
 rfl
def fst1 (b : UInt8) : Bool := r02_Starts (b.toNat : Int)
def let1 (b : UInt8) : Bool := r02_Letter (b.toNat : Int)
def spc1 (b : UInt8) : Bool := r02_Space (b.toNat : Int)
theorem first_r (s : Str) (i : Nat) : r02_Starts (pk s i 0) = tst fst1 s i := pk_tst r02_Starts s i 0 (by kernel_rfl)
theorem letter_r (s : Str) (i : Nat) : r02_Letter (pk s i 0) = tst let1 s i := pk_tst r02_Letter s i 0 (by kernel_rfl)
theorem space_r (s : Str) (i : Nat) : r02_Space (pk s i 0) = tst spc1 s i := pk_tst r02_Space s i 0 (by kernel_rfl)
def esc (s : Str) (i : Nat) : Bool := cond (tst (isb 92) s i) (!(tst (isb 10) s (i + 1))) false
theorem pk_ne (s : Str) (i : Nat) (d : Int) (c : Nat) (hd : d ≠ c) : (pk s i d != (c : Int)) = !(tst (isb c) s i) := by
 rw [← pk_is s i d c hd]; rfl
theorem esc_r (s : Str) (i : Nat) (h : i < 1000000) : r02_Escape s (i : Int) = some (esc s i) := by
 unfold r02_Escape esc
 rw [at_nat, Option.bind_some, show (92 : Int) = ((92 : Nat) : Int) from rfl, pk_is _ _ _ _ (by omega), w64_ix (by omega), at_nat]
 cases tst (isb 92) s i
 ·rfl
 ·simp only [cond_true, Option.bind_some]
  rw [show (10 : Int) = ((10 : Nat) : Int) from rfl, pk_ne _ _ _ _ (by omega)]
def nam (s : Str) (i : Nat) : Bool := cond (tst (isb 45) s i) (cond (cond (tst fst1 s (i + 1)) true (tst (isb 45) s (i + 1))) true (esc s (i + 1))) (cond (tst fst1 s i) true (esc s i))
theorem nam_r (s : Str) (i : Nat) (h : i < 900000) : r02_NameAt s (i : Int) = some (nam s i) := by
 unfold r02_NameAt nam
 rw [at_nat, Option.bind_some, show (45 : Int) = ((45 : Nat) : Int) from rfl, pk_is _ _ _ _ (by omega), w64_ix (by omega)]
 cases tst (isb 45) s i
 ·simp only [cond_false, Option.bind_some]
  rw [first_r, esc_r s i (by omega)]
  cases tst fst1 s i <;> rfl
 ·simp only [cond_true]
  rw [at_nat, Option.bind_some, first_r, esc_r s (i + 1) (by omega)]
  cases tst fst1 s (i + 1)
  ·simp only [cond_false, Option.bind_some]
   rw [pk_is _ _ _ _ (by omega)]
   cases tst (isb 45) s (i + 1) <;> rfl
  ·rfl
theorem numberA_r (s : Str) (hs : s.length < 1000000) (a : Nat) (ha : a ≤ s.length) : r02_NumberAt s (a : Int) = some (numAt s a) := by
 unfold r02_NumberAt numAt skipS
 rw [at_nat]
 simp only [Option.bind_some]
 rw [sgn_p s a 0 (by omega)]
 cases tst isg s a
 ·simp only [cond_false, Option.bind_some]
  rw [at_nat]
  simp only [Option.bind_some]
  rw [show (46 : Int) = ((46 : Nat) : Int) from rfl, pk_is _ _ _ _ (by omega)]
  cases tst (isb 46) s a
  ·simp only [cond_false, Option.bind_some]
   rw [at_nat]
   simp only [Option.bind_some, rdig]
  ·simp only [cond_true, Option.bind_some]
   rw [w64_ix (by omega), at_nat]
   simp only [Option.bind_some, rdig]
 ·simp only [cond_true, Option.bind_some]
  rw [w64_ix (by omega), at_nat]
  simp only [Option.bind_some]
  rw [show (46 : Int) = ((46 : Nat) : Int) from rfl, pk_is _ _ _ _ (by omega)]
  cases tst (isb 46) s (a + 1)
  ·simp only [cond_false, Option.bind_some]
   rw [at_nat]
   simp only [Option.bind_some, rdig]
  ·simp only [cond_true, Option.bind_some]
   rw [w64_ix (by omega), at_nat]
   simp only [Option.bind_some, rdig]
def endMA (s : Str) (a : Nat) : Nat × Bool :=
 let y := skipS s a + (digS s (skipS s a)).length
 cond (cond (tst (isb 46) s y) (tst isd s (y + 1)) false) (y + 1 + (digS s (y + 1)).length, false) (y, true)
theorem endMA_le (s : Str) (a : Nat) (ha : a ≤ s.length) : (endMA s a).1 ≤ s.length := by
 unfold endMA
 have h1 := skip_le s a ha
 have h2 := dig_le s _ h1
 dsimp only
 cases ht : tst (isb 46) s (skipS s a + (digS s (skipS s a)).length) with
 | false => exact h2
 | true =>
  cases ht2 : tst isd s (skipS s a + (digS s (skipS s a)).length + 1) with
  | false => exact h2
  | true => exact dig_le s _ (tst_lt ht)
def numEndA (s : Str) (a : Nat) : Nat × Bool := endE s (endMA s a).1 (endMA s a).2
theorem endMA_eq (s : Str) (a y : Nat) (hy : y = skipS s a + (digS s (skipS s a)).length) : endMA s a = cond (cond (tst (isb 46) s y) (tst isd s (y + 1)) false) (y + 1 + (digS s (y + 1)).length, false) (y, true) := by rw [hy]; rfl
theorem endA_r (m : Nat) (s : Str) (hs : s.length < 1000000) (hm : s.length < m) (a : Nat) (ha : a ≤ s.length) : r02_NumberEnd m s (a : Int) = some (((numEndA s a).1 : Int), (numEndA s a).2) := by
 unfold r02_NumberEnd
 have h0 := at_nat s a
 rw [h0]
 simp only [Option.bind_some]
 rw [sgn_p s a 0 (by omega)]
 have e1 : (cond (tst isg s a) (some (w64 ((a : Int) + 1))) (some (a : Int)) : Option Int) = some ((skipS s a : Nat) : Int) := by
  unfold skipS
  cases tst isg s a
  ·rfl
  ·rw [w64_ix (by omega)]; rfl
 rw [e1]
 simp only [Option.bind_some]
 have h1 := skip_le s a ha
 have h2 := dig_le s _ h1
 unfold r02_digits
 rw [digits_ok m s hs m _ (by omega) h1]
 simp only [Option.bind_some]
 unfold numEndA
 obtain ⟨y, hy⟩ : ∃ y, y = skipS s a + (digS s (skipS s a)).length := ⟨_, rfl⟩
 have eM := endMA_eq s a y hy
 rw [← hy] at h2 ⊢
 have hM : (Option.bind (r02_At s (y : Int)) fun y17 => Option.bind (cond (y17 == 46) (r02_At s (w64 ((y : Int) + 1))) (some default)) fun y18 =>
   cond (cond (y17 == 46) (r02_Digit y18) false) (Option.bind (Option.bind (r02_digits_L1 m s m (w64 ((y : Int) + 1))) fun z3 => some z3) fun y23 => some (y23, false)) (some ((y : Int), true))) = some (((endMA s a).1 : Int), (endMA s a).2) := by
  rw [at_nat, eM]
  simp only [Option.bind_some]
  rw [show (46 : Int) = ((46 : Nat) : Int) from rfl, pk_is _ _ _ _ (by omega)]
  cases ht : tst (isb 46) s y with
  | false => rfl
  | true =>
   have hl := tst_lt ht
   simp only [cond_true]
   rw [w64_ix (by omega), at_nat]
   simp only [Option.bind_some]
   rw [rdig, digits_ok m s hs m (y + 1) (by omega) (by omega)]
   cases tst isd s (y + 1) <;> rfl
 rw [hM]
 simp only [Option.bind_some]
 have hle := endMA_le s a ha
 generalize endMA s a = q at hle
 obtain ⟨e, wh⟩ := q
 simp only at hle ⊢
 rw [at_nat]
 simp only [Option.bind_some]
 rw [ee_p s e 0 (by omega)]
 unfold endE
 cases ht : tst iee s e with
 | false => rfl
 | true =>
  have hl := tst_lt ht
  simp only [cond_true]
  rw [w64_ix (by omega), at_nat]
  simp only [Option.bind_some]
  rw [sgn_p s (e + 1) 0 (by omega), w64_ix (by omega)]
  cases hg : tst isg s (e + 1) with
  | false =>
   simp only [cond_false, Option.bind_some]
   rw [at_nat, digits_ok m s hs m (e + 1) (by omega) (by omega)]
   simp only [Option.bind_some]
   rw [rdig]
   cases tst isd s (e + 1) <;> rfl
  | true =>
   have hl2 := tst_lt hg
   simp only [cond_true, Option.bind_some]
   rw [at_nat, digits_ok m s hs m (e + 1 + 1) (by omega) (by omega)]
   simp only [Option.bind_some]
   rw [rdig]
   cases tst isd s (e + 1 + 1) <;> rfl
theorem tst_drop (p : UInt8 → Bool) (s : Str) (a k : Nat) : tst p s (a + k) = tst p (s.drop a) k := by
 unfold tst; rw [List.getElem?_drop]
theorem dig_drop (s : Str) (a k : Nat) : digS s (a + k) = digS (s.drop a) k := by
 unfold digS; rw [List.drop_drop]
theorem skip_drop (s : Str) (a : Nat) : skipS s a = a + skipS (s.drop a) 0 := by
 unfold skipS
 rw [show tst isg s a = tst isg (s.drop a) 0 from tst_drop isg s a 0]
 cases tst isg (s.drop a) 0 <;> rfl
theorem numAt_drop (s : Str) (a : Nat) : numAt s a = numAt (s.drop a) 0 := by
 unfold numAt
 dsimp only
 rw [skip_drop, tst_drop]
 cases tst (isb 46) (s.drop a) (skipS (s.drop a) 0) with
 | false => exact tst_drop _ _ _ _
 | true => exact tst_drop isd s a (skipS (s.drop a) 0 + 1)
theorem endMA_drop (s : Str) (a : Nat) : endMA s a = (a + (endM (s.drop a)).1, (endM (s.drop a)).2) := by
 obtain ⟨y, hy⟩ : ∃ y, y = skipS (s.drop a) 0 + (digS (s.drop a) (skipS (s.drop a) 0)).length := ⟨_, rfl⟩
 have hy2 : a + y = skipS s a + (digS s (skipS s a)).length := by rw [skip_drop, dig_drop, hy]; omega
 rw [endMA_eq s a (a + y) hy2, endM_eq _ y hy, tst_drop, show a + y + 1 = a + (y + 1) from rfl, tst_drop, dig_drop]
 cases cond (tst (isb 46) (s.drop a) y) (tst isd (s.drop a) (y + 1)) false
 ·rfl
 ·simp only [cond_true]; rw [show a + (y + 1) + (digS (s.drop a) (y + 1)).length = a + (y + 1 + (digS (s.drop a) (y + 1)).length) from by omega]
theorem endE_drop (s : Str) (a e : Nat) (wh : Bool) : endE s (a + e) wh = (a + (endE (s.drop a) e wh).1, (endE (s.drop a) e wh).2) := by
 unfold endE
 dsimp only
 rw [tst_drop, show a + e + 1 = a + (e + 1) from rfl, tst_drop, show a + e + 2 = a + (e + 2) from rfl]
 have hj : cond (tst isg (s.drop a) (e + 1)) (a + (e + 2)) (a + (e + 1)) = a + cond (tst isg (s.drop a) (e + 1)) (e + 2) (e + 1) := by cases tst isg (s.drop a) (e + 1) <;> rfl
 rw [hj]
 generalize cond (tst isg (s.drop a) (e + 1)) (e + 2) (e + 1) = j
 rw [tst_drop, dig_drop]
 cases tst iee (s.drop a) e
 ·rfl
 ·cases tst isd (s.drop a) j
  ·rfl
  ·simp only [cond_true]; rw [show a + j + (digS (s.drop a) j).length = a + (j + (digS (s.drop a) j).length) from by omega]
theorem numEndA_drop (s : Str) (a : Nat) : numEndA s a = (a + (numEnd (s.drop a)).1, (numEnd (s.drop a)).2) := by
 unfold numEndA numEnd
 rw [endMA_drop, endE_drop]
end Go.Proofs.YtemchjneoalnoaaGreatDoor

/-
 Numbers in a text, second part: what a number is worth in thousandths.
-/
import Derived.Test.YtemchjneoalnoaaGreatDoorA1
set_option linter.unusedVariables false
namespace Go.V
open Go
def capf (cap : Nat) (l : Str) (v : Nat) : Nat := l.foldl (fun v b => min cap (10 * v + (b.toNat - 48))) v
theorem capf_cons (cap : Nat) (b : UInt8) (l : Str) (v : Nat) : capf cap (b :: l) v = capf cap l (min cap (10 * v + (b.toNat - 48))) := rfl
theorem capf_le (cap : Nat) : ∀ (l : Str) (v : Nat), v ≤ cap → capf cap l v ≤ cap
 | [], _, h => h
 | b :: l, v, _ => capf_le cap l _ (Nat.min_le_left _ _)
def mulT (c : Int) (v : Nat) : Nat := if c ≤ 0 ∨ v = 0 then v else min 1000000000000 (v * 10 ^ c.toNat)
theorem mulT_step (c : Int) (v : Nat) (hc : 0 < c) (hv : 0 < v) (hv2 : v < 1000000000000) : mulT (c - 1) (min 1000000000000 (10 * v)) = mulT c v := by
 unfold mulT
 rw [if_neg (show ¬ (c ≤ 0 ∨ v = 0) by omega)]
 obtain ⟨k, rfl⟩ : ∃ k : Nat, c = ((k + 1 : Nat) : Int) := ⟨c.toNat - 1, by omega⟩
 have e1 : (((k + 1 : Nat) : Int)).toNat = k + 1 := by omega
 have e2 : ((((k + 1 : Nat) : Int)) - 1).toNat = k := by omega
 rw [e1, e2]
 have hp : 0 < 10 ^ k := Nat.pow_pos (by decide)
 rw [Nat.pow_succ]
 cases k with
 | zero =>
  rw [if_pos (Or.inl (by omega))]
  omega
 | succ k =>
  rw [if_neg (by omega)]
  generalize 10 ^ (k + 1) = p at hp
  rcases Nat.lt_or_ge (10 * v) 1000000000000 with h | h
  ·rw [Nat.min_eq_right (by omega : 10 * v ≤ 1000000000000)]
   congr 1
   rw [Nat.mul_comm 10 v, Nat.mul_assoc, Nat.mul_comm 10 p]
  ·rw [Nat.min_eq_left (by omega : 1000000000000 ≤ 10 * v)]
   have h1 : 1000000000000 ≤ 1000000000000 * p := Nat.le_mul_of_pos_right _ hp
   have h2 : 10 * v ≤ v * (p * 10) := by
    rw [Nat.mul_comm p 10, ← Nat.mul_assoc, Nat.mul_comm v 10]
    exact Nat.le_mul_of_pos_right _ hp
   omega
theorem dig_val {b : UInt8} (h : isd b = true) : wu8 ((b.toNat : Int) - 48) = ((b.toNat - 48 : Nat) : Int) := by
 unfold isd at h
 rw [Bool.and_eq_true] at h
 have h1 := of_decide_eq_true h.1
 have h2 := of_decide_eq_true h.2
 rw [wu8_id (by omega) (by omega)]
 omega
theorem sub_one {s : Str} {i : Nat} (h : i < s.length) : sub s (i : Int) ((i + 1 : Nat) : Int) = [s[i]] := by
 unfold sub
 rw [show (((i + 1 : Nat) : Int)).toNat = i + 1 from by omega, show ((i : Int)).toNat = i from by omega]
 rw [Nat.add_sub_cancel_left, drop_get h]
 rfl
end Go.V
namespace Go.Proofs.YtemchjneoalnoaaGreatDoor
open Go Go.V
set_option maxRecDepth 100000
theorem mulL_t (m : Nat) : ∀ (kk : Nat) (c : Int) (v : Nat), -9000000000 < c → c < 9000000000 → v ≤ 1000000000000 → 0 < kk → (v = 0 ∨ 1000000000000 ≤ v * 10 ^ (kk - 1)) → r02_Thousandths_L5 m kk c (v : Int) = some ((mulT c v : Nat) : Int) := by
 intro kk
 induction kk with
 | zero => intro c v _ _ _ h; omega
 | succ kk ih =>
  intro c v hc1 hc2 hv _ hp
  rw [r02_Thousandths_L5]
  simp only [lt_eq]
  by_cases h1 : 0 < c
  ·by_cases h2 : v = 0
   ·subst h2
    have : mulT c 0 = 0 := by unfold mulT; rw [if_pos (Or.inr rfl)]
    rw [this, decide_eq_true h1]
    rfl
   ·have h3 : (0 : Int) < (v : Int) := by omega
    by_cases h4 : v < 1000000000000
    ·have h5 : (v : Int) < 1000000000000 := by omega
     rw [decide_eq_true h1, decide_eq_true h3, decide_eq_true h5]
     simp only [cond_true]
     rw [w64_id (x := 10 * (v : Int)) (by omega) (by omega), w64_id (x := c - 1) (by omega) (by omega)]
     have e : (if 10 * (v : Int) < 1000000000000 then 10 * (v : Int) else 1000000000000) = ((min 1000000000000 (10 * v) : Nat) : Int) := by
      split <;> omega
     have hk : 0 < kk := by
      rcases Nat.eq_zero_or_pos kk with h0 | h0
      ·subst h0; simp at hp; omega
      ·exact h0
     rw [e, ih (c - 1) (min 1000000000000 (10 * v)) (by omega) (by omega) (by omega) hk (Or.inr ?_), mulT_step c v h1 (by omega) h4]
     obtain ⟨k, rfl⟩ : ∃ k, kk = k + 1 := ⟨kk - 1, by omega⟩
     have hp' := hp.resolve_left h2
     simp only [Nat.add_sub_cancel] at hp' ⊢
     rw [Nat.pow_succ] at hp'
     have hq : 0 < 10 ^ k := Nat.pow_pos (by decide)
     generalize 10 ^ k = p at hp' hq
     rcases Nat.lt_or_ge (10 * v) 1000000000000 with h | h
     ·rw [Nat.min_eq_right (by omega : 10 * v ≤ 1000000000000)]
      rw [Nat.mul_comm p 10, ← Nat.mul_assoc, Nat.mul_comm v 10] at hp'
      exact hp'
     ·rw [Nat.min_eq_left (by omega : 1000000000000 ≤ 10 * v)]
      exact Nat.le_mul_of_pos_right _ hq
    ·have h5 : ¬ (v : Int) < 1000000000000 := by omega
     rw [decide_eq_true h1, decide_eq_true h3, decide_eq_false h5]
     simp only [cond_true, cond_false]
     have : v = 1000000000000 := by omega
     subst this
     unfold mulT
     rw [if_neg (by omega)]
     have h6 : 1000000000000 ≤ 1000000000000 * 10 ^ c.toNat := Nat.le_mul_of_pos_right _ (Nat.pow_pos (by decide))
     rw [Nat.min_eq_left h6]
  ·rw [decide_eq_false h1]
   unfold mulT
   rw [if_pos (Or.inl (by omega))]
   rfl
theorem step_val (b : UInt8) (h : isd b = true) (v : Nat) (hv : v ≤ 1000000000000) : w64 (w64 (10 * (v : Int)) + w64 (wu8 ((b.toNat : Int) - 48))) = ((10 * v + (b.toNat - 48) : Nat) : Int) := by
 rw [dig_val h]
 have := b.toNat_lt
 rw [w64_id (x := 10 * (v : Int)) (by omega) (by omega), w64_id (x := ((b.toNat - 48 : Nat) : Int)) (by omega) (by omega), w64_id (by omega) (by omega)]
 omega
theorem capR3 (m : Nat) (s : Str) (hl : s.length < 1000000) : ∀ (kk i v : Nat), (∀ b ∈ s.drop i, isd b = true) → s.length - i < kk → i ≤ s.length → v ≤ 10000 →
  r02_Thousandths_L3 m s kk (i : Int) (v : Int) = some ((capf 10000 (s.drop i) v : Nat) : Int) := by
 intro kk
 induction kk with
 | zero => intro i v _ h; omega
 | succ kk ih =>
  intro i v hz h hi hv
  rw [r02_Thousandths_L3]
  rcases Nat.lt_or_ge i s.length with hlt | hge
  ·rw [lt_dec hlt, chk_ix hlt]
   simp only [cond_true, lt_eq]
   have hd := drop_get hlt
   rw [bat_nat s i hlt, step_val s[i] (hz _ (by rw [hd]; exact List.mem_cons_self)) v (by omega), w64_ix (by omega)]
   have e : (if ((10 * v + (s[i].toNat - 48) : Nat) : Int) < 10000 then ((10 * v + (s[i].toNat - 48) : Nat) : Int) else 10000) = ((min 10000 (10 * v + (s[i].toNat - 48)) : Nat) : Int) := by
    split <;> omega
   rw [e, ih (i + 1) _ (fun b hb => hz b (by rw [hd]; exact List.mem_cons_of_mem _ hb)) (by omega) (by omega) (Nat.min_le_left _ _), hd, capf_cons]
  ·rw [ge_dec hge, List.drop_eq_nil_of_le hge]
   rfl
theorem capR4 (m : Nat) (z : Str × Int × Int) (c : Int) (hz : ∀ b ∈ z.1, isd b = true) (hl : z.1.length < 1000000) (hc : -9000000 < c ∧ c < 9000000) : ∀ (kk i v : Nat), z.1.length - i < kk → v ≤ 1000000000000 →
  r02_Thousandths_L4 m z c kk (v : Int) (i : Int) = some ((capf 1000000000000 ((z.1.take ((z.1.length : Int) + c).toNat).drop i) v : Nat) : Int) := by
 intro kk
 induction kk with
 | zero => intro i v h; omega
 | succ kk ih =>
  intro i v h hv
  rw [r02_Thousandths_L4]
  simp only [lt_eq]
  have hw : w64 (ln z.1 + c) = (z.1.length : Int) + c := by rw [w64_id (by unfold ln; omega) (by unfold ln; omega)]; rfl
  rw [hw]
  have hlen : (z.1.take ((z.1.length : Int) + c).toNat).length = min ((z.1.length : Int) + c).toNat z.1.length := List.length_take
  by_cases h1 : (i : Int) < (z.1.length : Int) + c ∧ i < z.1.length
  ·rw [decide_eq_true h1.1, lt_dec h1.2, chk_ix h1.2]
   simp only [cond_true]
   rw [bat_nat z.1 i h1.2, step_val z.1[i] (hz _ (List.getElem_mem h1.2)) v hv, w64_ix (by omega)]
   have e : (if ((10 * v + (z.1[i].toNat - 48) : Nat) : Int) < 1000000000000 then ((10 * v + (z.1[i].toNat - 48) : Nat) : Int) else 1000000000000) = ((min 1000000000000 (10 * v + (z.1[i].toNat - 48)) : Nat) : Int) := by
    split <;> omega
   have hlt : i < (z.1.take ((z.1.length : Int) + c).toNat).length := by rw [hlen]; omega
   rw [e, ih (i + 1) _ (by omega) (Nat.min_le_left _ _), drop_get hlt, capf_cons, List.getElem_take]
  ·have hf : cond (decide ((i : Int) < (z.1.length : Int) + c)) (decide ((i : Int) < ln z.1)) false = false := by
    by_cases h2 : (i : Int) < (z.1.length : Int) + c
    ·rw [decide_eq_true h2, ge_dec (by omega)]; rfl
    ·rw [decide_eq_false h2]; rfl
   rw [hf, List.drop_eq_nil_of_le (by rw [hlen]; omega)]
   rfl
theorem takR1 (m : Nat) (s : Str) (hs : s.length < 1000000) : ∀ (kk i : Nat) (v : Str), s.length - i < kk → i ≤ s.length → v.length ≤ i →
  r02_Thousandths_L1 m s kk v (i : Int) = some (v ++ digS s i, ((i + (digS s i).length : Nat) : Int)) := by
 intro kk
 induction kk with
 | zero => intro i v h; omega
 | succ kk ih =>
  intro i v h hi hv
  rw [r02_Thousandths_L1, at_nat]
  simp only [Option.bind_some]
  rw [rdig]
  cases ht : tst isd s i with
  | false => rw [dig_f ht]; simp
  | true =>
   obtain ⟨hl, h2⟩ := dig_t ht
   rw [h2, w64_ix (by omega), sub_one hl]
   simp only [cond_true]
   rw [chk_pos (by unfold ln; omega), chk_pos (by simp [ln]; omega), ih (i + 1) _ (by omega) (by omega) (by simp; omega)]
   simp
   omega
theorem takR2 (m : Nat) (s : Str) (hs : s.length < 1000000) : ∀ (kk i : Nat) (v : Str) (c : Int), s.length - i < kk → i ≤ s.length → v.length ≤ i → -9000000 < c - (s.length - i : Nat) → c < 9000000 →
  r02_Thousandths_L2 m s kk v c (i : Int) = some (v ++ digS s i, c - (digS s i).length, ((i + (digS s i).length : Nat) : Int)) := by
 intro kk
 induction kk with
 | zero => intro i v c h; omega
 | succ kk ih =>
  intro i v c h hi hv hc hc2
  rw [r02_Thousandths_L2, at_nat]
  simp only [Option.bind_some]
  rw [rdig]
  cases ht : tst isd s i with
  | false => rw [dig_f ht]; simp
  | true =>
   obtain ⟨hl, h2⟩ := dig_t ht
   rw [h2, w64_ix (by omega), sub_one hl, w64_id (x := c - 1) (by omega) (by omega)]
   simp only [cond_true]
   rw [chk_pos (by unfold ln; omega), chk_pos (by simp [ln]; omega), ih (i + 1) _ _ (by omega) (by omega) (by simp; omega) (by omega) (by omega)]
   simp
   omega
end Go.Proofs.YtemchjneoalnoaaGreatDoor

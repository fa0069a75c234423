/-
 Component values: their size and depth are told whatever they are. No program in sight.
-/
import Derived.Test.YtemchjneoalnoaaGreatDoorB3
import Derived.Test.YtemchjneoalnoaaGreatDoorBV
import Derived.Test.YtemchjneoalnoaaGreatDoorRU
set_option linter.unusedVariables false
set_option maxRecDepth 100000
namespace Go.Proofs.YtemchjneoalnoaaGreatDoor
open Go Go.V Go.RowKit
theorem z_kid (x : TValue) : zVs x.List_ + 6 < zV x := by
 obtain ⟨t, l⟩ := x
 simp only [zV, TValue.List_, zT]; omega
theorem z_mem {x : TValue} : ∀ {l : List TValue}, x ∈ l → zV x ≤ zVs l
 | [], h => by cases h
 | y :: l, h => by
  rcases List.mem_cons.1 h with rfl | h
  ·simp only [zVs]; omega
  ·have := z_mem h; simp only [zVs]; omega
theorem z_len : ∀ l : List TValue, l.length ≤ zVs l
 | [] => Nat.le_refl _
 | y :: l => by have := z_len l; have := z_kid y; simp only [zVs, List.length_cons]; omega
theorem gi_mem' {α : Type} [Inhabited α] {l : List α} {i : Nat} (h : i < l.length) : gi l (i : Int) ∈ l := by rw [gi_nat l i h]; exact List.getElem_mem h
theorem size_L1 (m : Nat) (v : List TValue) (most : Int) (rec : List TValue → Int → Option Int) (hl : v.length < 2000000) (hr : ∀ x ∈ v, ∀ q, ∃ n, rec x.List_ q = some n) :
  ∀ (kk i : Nat) (n : Int), v.length - i < kk → i ≤ v.length → ∃ r, r04_Size_L1 m v most rec kk n (i : Int) = some r := by
 intro kk
 induction kk with
 | zero => intro i n h; omega
 | succ kk ih =>
  intro i n h hi
  rw [r04_Size_L1, lt_eq]
  by_cases h1 : i < v.length
  ·rw [lt_dec h1, cond_true]
   cases decide (n ≤ most)
   ·exact ⟨_, rfl⟩
   ·rw [cond_true, chk_ix h1, lt_eq]
    obtain ⟨y, hy⟩ := hr _ (gi_mem' h1) (w64 (most - n))
    rw [hy, Option.bind_some, w64_ix (by omega)]
    exact ih (i + 1) _ (by omega) (by omega)
  ·rw [ge_dec (by omega), cond_false]
   exact ⟨_, rfl⟩
theorem size_r (m : Nat) (hm : 1048577 < m) : ∀ (k : Nat) (v : List TValue) (q : Int), zVs v < k → zVs v ≤ 1048576 → ∃ n, r04_Size_r m k v q = some n := by
 intro k
 induction k with
 | zero => intro v q h; omega
 | succ k ih =>
  intro v q h hb
  have hl := z_len v
  obtain ⟨n, hn⟩ := size_L1 m v q (r04_Size_r m k) (by omega) (fun x hx q => by
   have h1 := z_mem hx; have h2 := z_kid x
   exact ih _ _ (by omega) (by omega)) m 0 0 (by omega) (by omega)
  refine ⟨n, ?_⟩
  rw [r04_Size_r]
  rw [show (0 : Int) = ((0 : Nat) : Int) from rfl] at hn ⊢
  rw [hn]; rfl
def clo (k : Int) : Int := r04_Closer k
mutual
def dpV : TValue → Nat
 | .mk t l => cond (clo t.Kind == 0) 0 (1 + dpVs l)
def dpVs : List TValue → Nat
 | [] => 0
 | v :: r => max (dpV v) (dpVs r)
end
theorem dpV_at (x : TValue) : dpV x = cond (clo x.Token.Kind == 0) 0 (1 + dpVs x.List_) := by obtain ⟨t, l⟩ := x; rw [dpV]; rfl
theorem dp_drop {l : List TValue} {i : Nat} (h : i < l.length) : dpVs (l.drop i) = max (dpV (gi l (i : Int))) (dpVs (l.drop (i + 1))) := by
 rw [List.drop_eq_getElem_cons h, dpVs, gi_nat l i h]
theorem dp_le (n : Nat) : ∀ v : List TValue, zVs v ≤ n → dpVs v ≤ zVs v := by
 induction n with
 | zero =>
  intro v h
  cases v with
  | nil => exact Nat.le_refl _
  | cons x r => have := z_kid x; simp only [zVs] at h; omega
 | succ n ih =>
  intro v
  induction v with
  | nil => intro _; exact Nat.le_refl _
  | cons x r ihr =>
   intro h
   have hk := z_kid x
   rw [zVs] at h
   have h1 := ihr (by omega)
   have h2 := ih x.List_ (by omega)
   rw [zVs, dpVs, dpV_at]
   cases (clo x.Token.Kind == 0) <;> simp only [cond_true, cond_false] <;> omega
theorem deep_L1 (m : Nat) (v : List TValue) (rec : List TValue → Option Int) (hl : zVs v ≤ 1048576) (hr : ∀ x ∈ v, rec x.List_ = some ((dpVs x.List_ : Nat) : Int)) :
  ∀ (kk i a : Nat), v.length - i < kk → i ≤ v.length → a ≤ 1048577 → r04_Deep_L1 m v rec kk (a : Int) (i : Int) = some ((max a (dpVs (v.drop i)) : Nat) : Int) := by
 have hlen := z_len v
 intro kk
 induction kk with
 | zero => intro i a h; omega
 | succ kk ih =>
  intro i a h hi ha
  rw [r04_Deep_L1]
  by_cases h1 : i < v.length
  ·have hm := gi_mem' h1
   have hz := z_mem hm; have hk := z_kid (gi v (i : Int))
   have htk := dp_le _ (gi v (i : Int)).List_ (Nat.le_refl _)
   rw [lt_dec h1, cond_true, chk_ix h1, lt_eq, dp_drop h1, dpV_at]
   show (Option.bind (cond (clo (gi v (i : Int)).Token.Kind != 0) _ _) _) = _
   unfold bne
   cases hc : (clo (gi v (i : Int)).Token.Kind == 0)
   ·rw [Bool.not_false, cond_true, cond_false, hr _ hm, Option.bind_some, lt_eq, Option.bind_some, w64_id (by omega) (by omega)]
    have e : (if (a : Int) < 1 + ((dpVs (gi v (i : Int)).List_ : Nat) : Int) then 1 + ((dpVs (gi v (i : Int)).List_ : Nat) : Int) else (a : Int)) = ((max a (1 + dpVs (gi v (i : Int)).List_) : Nat) : Int) := by split <;> omega
    rw [e, w64_ix (by omega), ih (i + 1) _ (by omega) (by omega) (by omega)]
    congr 2 <;> omega
   ·rw [Bool.not_true, cond_false, cond_true, Option.bind_some, w64_ix (by omega), ih (i + 1) _ (by omega) (by omega) (by omega)]
    congr 2 <;> omega
  ·rw [ge_dec (by omega), cond_false, List.drop_eq_nil_of_le (by omega), dpVs]
   congr 2 <;> omega
theorem deep_r (m : Nat) (hm : 1048577 < m) : ∀ (k : Nat) (v : List TValue), zVs v < k → zVs v ≤ 1048576 → r04_Deep_r m k v = some ((dpVs v : Nat) : Int) := by
 intro k
 induction k with
 | zero => intro v h; omega
 | succ k ih =>
  intro v h hb
  have hl := z_len v
  have hn := deep_L1 m v (r04_Deep_r m k) hb (fun x hx => by
   have h1 := z_mem hx; have h2 := z_kid x
   exact ih _ (by omega) (by omega)) m 0 0 (by omega) (by omega) (by omega)
  rw [r04_Deep_r]
  rw [show (0 : Int) = ((0 : Nat) : Int) from rfl, hn, Option.bind_some, List.drop_zero, Nat.zero_max]
abbrev FU : Nat := 1100000
theorem great_ex (v : List TValue) (h : zVs v ≤ 1048576) : ∃ b, r04_Great FU v = some b := by
 obtain ⟨q, hq⟩ := size_r FU (by decide) FU v 300 (by unfold FU; omega) h
 have hd := deep_r FU (by decide) FU v (by unfold FU; omega) h
 unfold r04_Great r04_Size r04_Deep
 rw [hq, Option.bind_some, hd]
 cases decide (300 < q) <;> exact ⟨_, rfl⟩
theorem z_tok (x : TValue) : x.Token.Text.length ≤ zV x ∧ x.Token.Unit.length ≤ zV x := by
 obtain ⟨t, l⟩ := x
 simp only [zV, zT, TValue.Token]
 omega
theorem small_L1 (m : Nat) (s : Str) (hs : s.length ≤ 1048576) : ∀ (kk i : Nat) (b : List Int), s.length - i < kk → i ≤ s.length → ∃ r, parseval_small_L1 m s kk (i : Int) b = some r := by
 intro kk
 induction kk with
 | zero => intro i b h; omega
 | succ kk ih =>
  intro i b h hi
  have hl : (ofB s).length = s.length := by simp [ofB]
  rw [parseval_small_L1]
  by_cases h1 : i < s.length
  ·rw [lt_dec (by rw [hl]; exact h1), cond_true, chk_ix (by rw [hl]; exact h1), lt_eq, w64_ix (by omega)]
   cases (cond (decide (65 ≤ gi b (i : Int))) (decide (gi b (i : Int) ≤ 90)) false)
   ·exact ih (i + 1) _ (by omega) (by omega)
   ·exact ih (i + 1) _ (by omega) (by omega)
  ·rw [ge_dec (by rw [hl]; omega), cond_false]
   exact ⟨_, rfl⟩
theorem small_ex (s : Str) (hs : s.length ≤ 1048576) : ∃ r, parseval_small FU s = some r := by
 obtain ⟨r, h⟩ := small_L1 FU s hs FU 0 (ofB s) (by unfold FU; omega) (Nat.zero_le _)
 exact ⟨toB r, by unfold parseval_small; rw [show (0 : Int) = ((0 : Nat) : Int) from rfl, h]; rfl⟩
theorem u8_wu (x : Int) : (Lit.int .u8 (wu8 x)).wf = true := by
 have h1 : 0 ≤ wu8 x ∧ wu8 x < 256 := by rw [wu8_mod]; omega
 have h2 : IntKind.u8.min = 0 := by decide
 have h3 : IntKind.u8.max = 255 := by decide
 simp only [Lit.wf, h2, h3, Bool.and_eq_true, decide_eq_true_eq]
 omega
end Go.Proofs.YtemchjneoalnoaaGreatDoor

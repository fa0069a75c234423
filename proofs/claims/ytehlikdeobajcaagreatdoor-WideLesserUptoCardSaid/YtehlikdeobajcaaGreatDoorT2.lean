/-
 Component values: how large they are; their depth, tokens, shape, twins: both readers see the same. No program in sight.
-/
import Derived.Test.YtehlikdeobajcaaGreatDoorT1
import Derived.Test.YtehlikdeobajcaaGreatDoorBV
set_option linter.unusedVariables false
set_option maxRecDepth 100000
namespace Go.Proofs.YtehlikdeobajcaaGreatDoor
open Go Go.V Go.RowKit
theorem z_kid (x : TValue) : zVs x.List_ + 6 < zV x := by
 obtain ⟨t, l⟩ := x
 simp only [zV, TValue.List_, zT]; omega
theorem z_mem {x : TValue} : ∀ {l : List TValue}, x ∈ l → zV x ≤ zVs l
 | [], h => by cases h
 | y :: l, h => by
  rcases List.mem_cons.1 h with rfl | h
  ·simp only [zVs]; omega
  ·have := z_mem h; simp only [zVs]; omega
theorem z_len : ∀ l : List TValue, l.length ≤ zVs l
 | [] => Nat.le_refl _
 | y :: l => by have := z_len l; have := z_kid y; simp only [zVs, List.length_cons]; omega
theorem gi_mem' {α : Type} [Inhabited α] {l : List α} {i : Nat} (h : i < l.length) : gi l (i : Int) ∈ l := by rw [gi_nat l i h]; exact List.getElem_mem h
theorem size_L1 (m : Nat) (v : List TValue) (most : Int) (rec : List TValue → Int → Option Int) (hl : v.length < 2000000) (hr : ∀ x ∈ v, ∀ q, ∃ n, rec x.List_ q = some n) :
  ∀ (kk i : Nat) (n : Int), v.length - i < kk → i ≤ v.length → ∃ r, r04_Size_L1 m v most rec kk n (i : Int) = some r := by
 intro kk
 induction kk with
 | zero => intro i n h; omega
 | succ kk ih =>
  intro i n h hi
  rw [r04_Size_L1, lt_eq]
  by_cases h1 : i < v.length
  ·rw [lt_dec h1, cond_true]
   cases decide (n ≤ most)
   ·exact ⟨_, rfl⟩
   ·rw [cond_true, chk_ix h1, lt_eq]
    obtain ⟨y, hy⟩ := hr _ (gi_mem' h1) (w64 (most - n))
    rw [hy, Option.bind_some, w64_ix (by omega)]
    exact ih (i + 1) _ (by omega) (by omega)
  ·rw [ge_dec (by omega), cond_false]
   exact ⟨_, rfl⟩
theorem size_r (m : Nat) (hm : 1048577 < m) : ∀ (k : Nat) (v : List TValue) (q : Int), zVs v < k → zVs v ≤ 1048576 → ∃ n, r04_Size_r m k v q = some n := by
 intro k
 induction k with
 | zero => intro v q h; omega
 | succ k ih =>
  intro v q h hb
  have hl := z_len v
  obtain ⟨n, hn⟩ := size_L1 m v q (r04_Size_r m k) (by omega) (fun x hx q => by
   have h1 := z_mem hx; have h2 := z_kid x
   exact ih _ _ (by omega) (by omega)) m 0 0 (by omega) (by omega)
  refine ⟨n, ?_⟩
  rw [r04_Size_r]
  rw [show (0 : Int) = ((0 : Nat) : Int) from rfl] at hn ⊢
  rw [hn]; rfl
def clo (k : Int) : Int := r04_Closer k
theorem clo_n (k : Int) : nest_closer k = clo k := by
 unfold nest_closer clo r04_Closer
 simp only [lt_eq]
 by_cases h2 : k = 2
 ·subst h2; rfl
 by_cases h19 : k = 19
 ·subst h19; rfl
 by_cases h21 : k = 21
 ·subst h21; rfl
 by_cases h23 : k = 23
 ·subst h23; rfl
 have b2 : (k == 2) = false := by simpa using h2
 have b19 : (k == 19) = false := by simpa using h19
 have b21 : (k == 21) = false := by simpa using h21
 have b23 : (k == 23) = false := by simpa using h23
 rw [b2, b19, b21, b23]
 rfl
mutual
def dpV : TValue → Nat
 | .mk t l => cond (clo t.Kind == 0) 0 (1 + dpVs l)
def dpVs : List TValue → Nat
 | [] => 0
 | v :: r => max (dpV v) (dpVs r)
end
mutual
def tkV : TValue → Nat
 | .mk t l => cond (clo t.Kind == 0) 1 (1 + tkVs l + 1)
def tkVs : List TValue → Nat
 | [] => 0
 | v :: r => tkV v + tkVs r
end
mutual
def shV : Int → TValue → Bool
 | c, .mk t l => (cond (c != 0) (t.Kind == c) false || cond (clo t.Kind == 0) (decide (0 < ln l)) (shVs (clo t.Kind) l))
def shVs : Int → List TValue → Bool
 | _, [] => false
 | c, v :: r => (shV c v || shVs c r)
end
theorem dpV_at (x : TValue) : dpV x = cond (clo x.Token.Kind == 0) 0 (1 + dpVs x.List_) := by obtain ⟨t, l⟩ := x; rw [dpV]; rfl
theorem tkV_at (x : TValue) : tkV x = cond (clo x.Token.Kind == 0) 1 (1 + tkVs x.List_ + 1) := by obtain ⟨t, l⟩ := x; rw [tkV]; rfl
theorem shV_at (c : Int) (x : TValue) : shV c x = (cond (c != 0) (x.Token.Kind == c) false || cond (clo x.Token.Kind == 0) (decide (0 < ln x.List_)) (shVs (clo x.Token.Kind) x.List_)) := by obtain ⟨t, l⟩ := x; rw [shV]; rfl
theorem dp_drop {l : List TValue} {i : Nat} (h : i < l.length) : dpVs (l.drop i) = max (dpV (gi l (i : Int))) (dpVs (l.drop (i + 1))) := by
 rw [List.drop_eq_getElem_cons h, dpVs, gi_nat l i h]
theorem tk_drop {l : List TValue} {i : Nat} (h : i < l.length) : tkVs (l.drop i) = tkV (gi l (i : Int)) + tkVs (l.drop (i + 1)) := by
 rw [List.drop_eq_getElem_cons h, tkVs, gi_nat l i h]
theorem sh_drop (c : Int) {l : List TValue} {i : Nat} (h : i < l.length) : shVs c (l.drop i) = (shV c (gi l (i : Int)) || shVs c (l.drop (i + 1))) := by
 rw [List.drop_eq_getElem_cons h, shVs, gi_nat l i h]
theorem tk_le (n : Nat) : ∀ v : List TValue, zVs v ≤ n → tkVs v ≤ zVs v ∧ dpVs v ≤ zVs v := by
 induction n with
 | zero =>
  intro v h
  cases v with
  | nil => exact ⟨Nat.le_refl _, Nat.le_refl _⟩
  | cons x r => have := z_kid x; simp only [zVs] at h; omega
 | succ n ih =>
  intro v
  induction v with
  | nil => intro _; exact ⟨Nat.le_refl _, Nat.le_refl _⟩
  | cons x r ihr =>
   intro h
   have hk := z_kid x
   rw [zVs] at h
   have h1 := ihr (by omega)
   have h2 := ih x.List_ (by omega)
   rw [tkVs, zVs, dpVs, tkV_at, dpV_at]
   cases (clo x.Token.Kind == 0) <;> simp only [cond_true, cond_false] <;> omega
theorem deep_L1 (m : Nat) (v : List TValue) (rec : List TValue → Option Int) (hl : zVs v ≤ 1048576) (hr : ∀ x ∈ v, rec x.List_ = some ((dpVs x.List_ : Nat) : Int)) :
  ∀ (kk i a : Nat), v.length - i < kk → i ≤ v.length → a ≤ 1048577 → r04_Deep_L1 m v rec kk (a : Int) (i : Int) = some ((max a (dpVs (v.drop i)) : Nat) : Int) := by
 have hlen := z_len v
 intro kk
 induction kk with
 | zero => intro i a h; omega
 | succ kk ih =>
  intro i a h hi ha
  rw [r04_Deep_L1]
  by_cases h1 : i < v.length
  ·have hm := gi_mem' h1
   have hz := z_mem hm; have hk := z_kid (gi v (i : Int))
   have htk := (tk_le _ (gi v (i : Int)).List_ (Nat.le_refl _)).2
   rw [lt_dec h1, cond_true, chk_ix h1, lt_eq, dp_drop h1, dpV_at]
   show (Option.bind (cond (clo (gi v (i : Int)).Token.Kind != 0) _ _) _) = _
   unfold bne
   cases hc : (clo (gi v (i : Int)).Token.Kind == 0)
   ·rw [Bool.not_false, cond_true, cond_false, hr _ hm, Option.bind_some, lt_eq, Option.bind_some, w64_id (by omega) (by omega)]
    have e : (if (a : Int) < 1 + ((dpVs (gi v (i : Int)).List_ : Nat) : Int) then 1 + ((dpVs (gi v (i : Int)).List_ : Nat) : Int) else (a : Int)) = ((max a (1 + dpVs (gi v (i : Int)).List_) : Nat) : Int) := by split <;> omega
    rw [e, w64_ix (by omega), ih (i + 1) _ (by omega) (by omega) (by omega)]
    congr 2 <;> omega
   ·rw [Bool.not_true, cond_false, cond_true, Option.bind_some, w64_ix (by omega), ih (i + 1) _ (by omega) (by omega) (by omega)]
    congr 2 <;> omega
  ·rw [ge_dec (by omega), cond_false, List.drop_eq_nil_of_le (by omega), dpVs]
   congr 2 <;> omega
theorem deep_r (m : Nat) (hm : 1048577 < m) : ∀ (k : Nat) (v : List TValue), zVs v < k → zVs v ≤ 1048576 → r04_Deep_r m k v = some ((dpVs v : Nat) : Int) := by
 intro k
 induction k with
 | zero => intro v h; omega
 | succ k ih =>
  intro v h hb
  have hl := z_len v
  have hn := deep_L1 m v (r04_Deep_r m k) hb (fun x hx => by
   have h1 := z_mem hx; have h2 := z_kid x
   exact ih _ (by omega) (by omega)) m 0 0 (by omega) (by omega) (by omega)
  rw [r04_Deep_r]
  rw [show (0 : Int) = ((0 : Nat) : Int) from rfl, hn, Option.bind_some, List.drop_zero, Nat.zero_max]
theorem tok_L1 (m : Nat) (v : List TValue) (rec : List TValue → Option (List TToken)) (hl : zVs v ≤ 1048576) (hr : ∀ x ∈ v, ∃ t, rec x.List_ = some t ∧ t.length = tkVs x.List_) :
  ∀ (kk i : Nat) (a : List TToken), v.length - i < kk → i ≤ v.length → a.length + tkVs (v.drop i) ≤ 1048577 → ∃ t, r04_Tokens_L1 m v rec kk a (i : Int) = some t ∧ t.length = a.length + tkVs (v.drop i) := by
 have hlen := z_len v
 intro kk
 induction kk with
 | zero => intro i a h; omega
 | succ kk ih =>
  intro i a h hi ha
  rw [r04_Tokens_L1]
  by_cases h1 : i < v.length
  ·have hm := gi_mem' h1
   obtain ⟨t, ht, htl⟩ := hr _ hm
   rw [tk_drop h1, tkV_at] at ha ⊢
   rw [lt_dec h1, cond_true, chk_ix h1]
   have e1 : clo (gi v (i : Int)).Token.Kind = r04_Closer (gi v (i : Int)).Token.Kind := rfl
   rw [← e1]
   unfold bne
   cases hc : (clo (gi v (i : Int)).Token.Kind == 0) <;> rw [hc] at ha <;> simp only [cond_true, cond_false] at ha ⊢
   ·rw [chk_pos (by unfold ln; simp only [List.length_cons, List.length_nil]; omega), lt_eq, lt_eq, Bool.not_false, cond_true, ht, Option.bind_some]
    rw [chk_pos (by unfold ln; simp only [List.length_append, List.length_cons, List.length_nil]; omega), lt_eq]
    rw [chk_pos (by unfold ln; simp only [List.length_append, List.length_cons, List.length_nil]; omega), lt_eq, Option.bind_some, w64_ix (by omega)]
    obtain ⟨r, hr1, hr2⟩ := ih (i + 1) (a ++ [(gi v (i : Int)).Token] ++ t ++ [TToken.mk (clo (gi v (i : Int)).Token.Kind) [] 0 [] false]) (by omega) (by omega) (by simp only [List.length_append, List.length_cons, List.length_nil]; omega)
    refine ⟨r, hr1, ?_⟩
    rw [hr2]
    simp only [List.length_append, List.length_cons, List.length_nil]; omega
   ·rw [chk_pos (by unfold ln; simp only [List.length_cons, List.length_nil]; omega), lt_eq, lt_eq, Bool.not_true, cond_false, Option.bind_some, w64_ix (by omega)]
    obtain ⟨r, hr1, hr2⟩ := ih (i + 1) (a ++ [(gi v (i : Int)).Token]) (by omega) (by omega) (by simp only [List.length_append, List.length_cons, List.length_nil]; omega)
    refine ⟨r, hr1, ?_⟩
    rw [hr2]
    simp only [List.length_append, List.length_cons, List.length_nil]; omega
  ·rw [ge_dec (by omega), cond_false, List.drop_eq_nil_of_le (by omega), tkVs]
   exact ⟨a, rfl, rfl⟩
theorem tok_r (m : Nat) (hm : 1048577 < m) : ∀ (k : Nat) (v : List TValue), zVs v < k → zVs v ≤ 1048576 → ∃ t, r04_Tokens_r m k v = some t ∧ t.length = tkVs v := by
 intro k
 induction k with
 | zero => intro v h; omega
 | succ k ih =>
  intro v h hb
  have hl := z_len v
  have hk := (tk_le _ v (Nat.le_refl _)).1
  obtain ⟨t, h1, h2⟩ := tok_L1 m v (r04_Tokens_r m k) hb (fun x hx => by
   have h1 := z_mem hx; have h2 := z_kid x
   exact ih _ (by omega) (by omega)) m 0 [] (by omega) (by omega) (by rw [List.drop_zero]; simp only [List.length_nil]; omega)
  refine ⟨t, ?_, by rw [h2, List.drop_zero]; simp⟩
  rw [r04_Tokens_r]
  rw [show (0 : Int) = ((0 : Nat) : Int) from rfl, h1, Option.bind_some]
theorem shape_L1 (m : Nat) (v : List TValue) (c : Int) (rec : List TValue → Int → Option Bool) (hl : zVs v ≤ 1048576) (hr : ∀ x ∈ v, ∀ c, rec x.List_ c = some (!(shVs c x.List_))) :
  ∀ (kk i : Nat), v.length - i < kk → i ≤ v.length → r04_shaped_L1 m v c rec kk (i : Int) = some (cond (shVs c (v.drop i)) (.inl false) (.inr ())) := by
 have hlen := z_len v
 intro kk
 induction kk with
 | zero => intro i h; omega
 | succ kk ih =>
  intro i h hi
  rw [r04_shaped_L1]
  by_cases h1 : i < v.length
  ·have hm := gi_mem' h1
   rw [lt_dec h1, cond_true, chk_ix h1, lt_eq, lt_eq, lt_eq, sh_drop c h1, shV_at]
   have e1 : clo (gi v (i : Int)).Token.Kind = r04_Closer (gi v (i : Int)).Token.Kind := rfl
   rw [← e1, hr _ hm]
   unfold bne
   cases hc : (clo (gi v (i : Int)).Token.Kind == 0)
   ·cases hz : (c == 0) <;> cases hk : ((gi v (i : Int)).Token.Kind == c) <;> cases hs : shVs (clo (gi v (i : Int)).Token.Kind) (gi v (i : Int)).List_ <;>
     simp only [Bool.not_false, Bool.not_true, cond_true, cond_false, Option.bind_some, lt_eq, Bool.false_or, Bool.true_or, Bool.or_false, Bool.or_true] <;>
     first | rfl | (rw [w64_ix (by omega)]; exact ih (i + 1) (by omega) (by omega))
   ·cases hz : (c == 0) <;> cases hk : ((gi v (i : Int)).Token.Kind == c) <;> cases hs : decide (0 < ln (gi v (i : Int)).List_) <;>
     simp only [Bool.not_false, Bool.not_true, cond_true, cond_false, Option.bind_some, lt_eq, Bool.false_or, Bool.true_or, Bool.or_false, Bool.or_true] <;>
     first | rfl | (rw [w64_ix (by omega)]; exact ih (i + 1) (by omega) (by omega))
  ·rw [ge_dec (by omega), cond_false, List.drop_eq_nil_of_le (by omega), shVs]
   rfl
theorem shape_r (m : Nat) (hm : 1048577 < m) : ∀ (k : Nat) (v : List TValue) (c : Int), zVs v < k → zVs v ≤ 1048576 → r04_shaped_r m k v c = some (!(shVs c v)) := by
 intro k
 induction k with
 | zero => intro v c h; omega
 | succ k ih =>
  intro v c h hb
  have hl := z_len v
  have hn := shape_L1 m v c (r04_shaped_r m k) hb (fun x hx c => by
   have h1 := z_mem hx; have h2 := z_kid x
   exact ih _ _ (by omega) (by omega)) m 0 (by omega) (by omega)
  rw [r04_shaped_r]
  rw [show (0 : Int) = ((0 : Nat) : Int) from rfl, hn, Option.bind_some, List.drop_zero]
  cases shVs c v <;> rfl
theorem look_L1 (m : Nat) (v : List TValue) (c : Int) (rec : List TValue → Int → Option Tnest_found) (hl : zVs v ≤ 1048576) (hr : ∀ x ∈ v, ∀ c, rec x.List_ c = some ⟨((dpVs x.List_ : Nat) : Int), ((tkVs x.List_ : Nat) : Int), shVs c x.List_⟩) :
  ∀ (kk i a t : Nat) (b : Bool), v.length - i < kk → i ≤ v.length → a ≤ 1048577 → t + tkVs (v.drop i) ≤ 1048577 →
   nest_look_L1 m v c rec kk (i : Int) (a : Int) (t : Int) b = some (((max a (dpVs (v.drop i)) : Nat) : Int), ((t + tkVs (v.drop i) : Nat) : Int), (b || shVs c (v.drop i))) := by
 have hlen := z_len v
 intro kk
 induction kk with
 | zero => intro i a t b h; omega
 | succ kk ih =>
  intro i a t b h hi ha htk
  rw [nest_look_L1]
  by_cases h1 : i < v.length
  ·have hm := gi_mem' h1
   have hz := z_mem hm; have hk := z_kid (gi v (i : Int))
   have htk0 := tk_le _ (gi v (i : Int)).List_ (Nat.le_refl _)
   rw [tk_drop h1, tkV_at] at htk
   rw [lt_dec h1, cond_true, chk_ix h1, lt_eq, lt_eq, sh_drop c h1, shV_at, dp_drop h1, dpV_at, tk_drop h1, tkV_at, clo_n, hr _ hm]
   have wi : w64 ((i : Int) + 1) = ((i + 1 : Nat) : Int) := w64_ix (by omega)
   have htk1 : t + 1 ≤ 1048577 := by
    cases hq : (clo (gi v (i : Int)).Token.Kind == 0) <;> rw [hq] at htk <;> simp only [cond_true, cond_false] at htk <;> omega
   have w1 : w64 ((t : Int) + 1) = ((t + 1 : Nat) : Int) := w64_ix (by omega)
   unfold bne
   cases hc : (clo (gi v (i : Int)).Token.Kind == 0)
   ·rw [hc] at htk
    simp only [cond_false] at htk
    have w2 : w64 (((dpVs (gi v (i : Int)).List_ : Nat) : Int) + 1) = ((dpVs (gi v (i : Int)).List_ + 1 : Nat) : Int) := w64_ix (by omega)
    have w3 : w64 (w64 (w64 ((t : Int) + 1) + ((tkVs (gi v (i : Int)).List_ : Nat) : Int)) + 1) = ((t + (1 + tkVs (gi v (i : Int)).List_ + 1) : Nat) : Int) := by
     rw [w1, w64_id (x := ((t + 1 : Nat) : Int) + _) (by omega) (by omega), w64_id (by omega) (by omega)]; omega
    have e : (if (a : Int) < ((dpVs (gi v (i : Int)).List_ + 1 : Nat) : Int) then ((dpVs (gi v (i : Int)).List_ + 1 : Nat) : Int) else (a : Int)) = ((max a (1 + dpVs (gi v (i : Int)).List_) : Nat) : Int) := by split <;> omega
    have hih := fun b => ih (i + 1) (max a (1 + dpVs (gi v (i : Int)).List_)) (t + (1 + tkVs (gi v (i : Int)).List_ + 1)) b (by omega) (by omega) (by omega) (by omega)
    cases hz : (c == 0) <;> cases hk : ((gi v (i : Int)).Token.Kind == c) <;> cases hs : shVs (clo (gi v (i : Int)).Token.Kind) (gi v (i : Int)).List_ <;> cases b <;>
     simp only [Bool.not_false, Bool.not_true, cond_true, cond_false, Option.bind_some, lt_eq, Bool.false_or, Bool.true_or, Bool.or_false, Bool.or_true, w2, w3, wi, e, hih] <;> simp only [Nat.max_assoc, Nat.add_assoc]
   ·rw [hc] at htk
    simp only [cond_true] at htk
    have hih := fun b => ih (i + 1) a (t + 1) b (by omega) (by omega) (by omega) (by omega)
    cases hz : (c == 0) <;> cases hk : ((gi v (i : Int)).Token.Kind == c) <;> cases hs : decide (0 < ln (gi v (i : Int)).List_) <;> cases b <;>
     simp only [Bool.not_false, Bool.not_true, cond_true, cond_false, Option.bind_some, lt_eq, Bool.false_or, Bool.true_or, Bool.or_false, Bool.or_true, w1, wi, hih] <;> simp only [Nat.zero_max, Nat.add_assoc]
  ·rw [ge_dec (by omega), cond_false, List.drop_eq_nil_of_le (by omega), shVs, dpVs, tkVs, Bool.or_false, Nat.max_zero, Nat.add_zero]
theorem look_r (m : Nat) (hm : 1048577 < m) : ∀ (k : Nat) (v : List TValue) (c : Int), zVs v < k → zVs v ≤ 1048576 → nest_look_r m k v c = some ⟨((dpVs v : Nat) : Int), ((tkVs v : Nat) : Int), shVs c v⟩ := by
 intro k
 induction k with
 | zero => intro v c h; omega
 | succ k ih =>
  intro v c h hb
  have hl := z_len v
  have hk := (tk_le _ v (Nat.le_refl _)).1
  have hn := look_L1 m v c (nest_look_r m k) hb (fun x hx c => by
   have h1 := z_mem hx; have h2 := z_kid x
   exact ih _ _ (by omega) (by omega)) m 0 0 0 false (by omega) (by omega) (by omega) (by rw [List.drop_zero]; omega)
  rw [nest_look_r]
  rw [show (0 : Int) = ((0 : Nat) : Int) from rfl, hn, Option.bind_some, List.drop_zero, Nat.zero_max, Nat.zero_add, Bool.false_or]
def chV (v : List TValue) : Int := if 16 < dpVs v then 20 else if 1500 < tkVs v then 4 else if shVs 0 v then 8 else 0
theorem nest_ok (m : Nat) (hm : 1048577 < m) (v : List TValue) (hb : zVs v ≤ 1048576) : nest_Check m v = some (chV v) := by
 unfold nest_Check nest_look chV
 rw [look_r m hm m v 0 (by omega) hb, Option.bind_some]
 have e1 : decide ((16 : Int) < ((dpVs v : Nat) : Int)) = decide (16 < dpVs v) := by simp; omega
 have e2 : decide ((1500 : Int) < ((tkVs v : Nat) : Int)) = decide (1500 < tkVs v) := by simp; omega
 show cond (decide ((16 : Int) < ((dpVs v : Nat) : Int))) _ _ = _
 rw [e1, e2]
 by_cases h1 : 16 < dpVs v
 ·simp [h1]
 ·by_cases h2 : 1500 < tkVs v
  ·simp [h1, h2]
  ·cases shVs 0 v <;> simp [h1, h2]
theorem ref_ok (m : Nat) (hm : 1048577 < m) (v : List TValue) (hb : zVs v ≤ 1048576) : r04_Check m v = some (chV v) := by
 unfold r04_Check r04_Deep r04_Tokens r04_shaped chV
 obtain ⟨t, h1, h2⟩ := tok_r m hm m v (by omega) hb
 rw [deep_r m hm m v (by omega) hb, Option.bind_some, h1, Option.bind_some, shape_r m hm m v 0 (by omega) hb, Option.bind_some]
 have e1 : decide ((16 : Int) < ((dpVs v : Nat) : Int)) = decide (16 < dpVs v) := by simp; omega
 have e2 : decide ((1500 : Int) < ln t) = decide (1500 < tkVs v) := by unfold ln; rw [h2]; simp; omega
 rw [e1, e2, Bool.not_not]
 by_cases h1 : 16 < dpVs v
 ·simp [h1]
 ·by_cases h2 : 1500 < tkVs v
  ·simp [h1, h2]
  ·cases shVs 0 v <;> simp [h1, h2]
theorem same_L1 (m : Nat) (v : List TValue) (rec : List TValue → List TValue → Option Bool) (hl : zVs v ≤ 1048576) (hr : ∀ x ∈ v, rec x.List_ x.List_ = some true) :
  ∀ (kk i : Nat), v.length - i < kk → i ≤ v.length → r04_Same_L1 m v v rec kk (i : Int) = some (.inr ()) := by
 have hlen := z_len v
 intro kk
 induction kk with
 | zero => intro i h; omega
 | succ kk ih =>
  intro i h hi
  rw [r04_Same_L1]
  by_cases h1 : i < v.length
  ·rw [lt_dec h1, cond_true, chk_ix h1, chk_ix h1, lt_eq, hr _ (gi_mem' h1)]
   simp only [beq_self_eq_true, Bool.and_true, Bool.not_true, cond_false, Option.bind_some]
   rw [w64_ix (by omega)]
   exact ih (i + 1) (by omega) (by omega)
  ·rw [ge_dec (by omega), cond_false]
theorem same_r (m : Nat) (hm : 1048577 < m) : ∀ (k : Nat) (v : List TValue), zVs v < k → zVs v ≤ 1048576 → r04_Same_r m k v v = some true := by
 intro k
 induction k with
 | zero => intro v h; omega
 | succ k ih =>
  intro v h hb
  have hl := z_len v
  have hn := same_L1 m v (r04_Same_r m k) hb (fun x hx => by
   have h1 := z_mem hx; have h2 := z_kid x
   exact ih _ (by omega) (by omega)) m 0 (by omega) (by omega)
  rw [r04_Same_r]
  rw [show (0 : Int) = ((0 : Nat) : Int) from rfl, hn, Option.bind_some, bne_self_eq_false]
  rfl
theorem clone_L1 (m : Nat) (v : List TValue) (rec : List TValue → Option (List TValue)) (hl : zVs v ≤ 1048576) (hr : ∀ x ∈ v, rec x.List_ = some x.List_) :
  ∀ (kk i : Nat), v.length - i < kk → i ≤ v.length → wide_clone_L1 m v rec kk (v.take i) (i : Int) = some v := by
 have hlen := z_len v
 intro kk
 induction kk with
 | zero => intro i h; omega
 | succ kk ih =>
  intro i h hi
  rw [wide_clone_L1]
  by_cases h1 : i < v.length
  ·rw [lt_dec h1, cond_true, chk_ix h1, hr _ (gi_mem' h1), Option.bind_some, chk_pos (by unfold ln; rw [List.length_take]; simp only [List.length_cons, List.length_nil]; omega), lt_eq, w64_ix (by omega)]
   have e : v.take i ++ [TValue.mk (gi v (i : Int)).Token (gi v (i : Int)).List_] = v.take (i + 1) := by
    rw [List.take_succ_eq_append_getElem h1, gi_nat v i h1]
    obtain ⟨t, l⟩ := v[i]
    rfl
   rw [e]
   exact ih (i + 1) (by omega) (by omega)
  ·rw [ge_dec (by omega), cond_false, List.take_of_length_le (by omega)]
theorem clone_r (m : Nat) (hm : 1048577 < m) : ∀ (k : Nat) (v : List TValue), zVs v < k → zVs v ≤ 1048576 → wide_clone_r m k v = some v := by
 intro k
 induction k with
 | zero => intro v h; omega
 | succ k ih =>
  intro v h hb
  have hl := z_len v
  have hn := clone_L1 m v (wide_clone_r m k) hb (fun x hx => by
   have h1 := z_mem hx; have h2 := z_kid x
   exact ih _ (by omega) (by omega)) m 0 (by omega) (by omega)
  rw [List.take_zero] at hn
  rw [wide_clone_r]
  rw [show (0 : Int) = ((0 : Nat) : Int) from rfl, hn, Option.bind_some]
end Go.Proofs.YtehlikdeobajcaaGreatDoor

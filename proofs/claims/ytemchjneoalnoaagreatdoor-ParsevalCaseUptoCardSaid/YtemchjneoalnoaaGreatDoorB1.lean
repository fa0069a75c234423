/-
 A value's text is read as the value. No program in sight.
-/
import Derived.Test.YtemchjneoalnoaaGreatDoorB0
set_option linter.unusedVariables false
set_option maxRecDepth 100000
namespace Go.Proofs.YtemchjneoalnoaaGreatDoor
open Go Go.V Go.RowKit
theorem u8_nat {x : Int} (h : (Lit.int .u8 x).wf = true) : ∃ n : Nat, x = (n : Int) ∧ n < 256 := by
 have h0 : IntKind.u8.min ≤ x ∧ x ≤ IntKind.u8.max := by simpa [Lit.wf] using h
 have h1 : 0 ≤ x ∧ x ≤ 255 := ⟨(show IntKind.u8.min = 0 by decide) ▸ h0.1, (show IntKind.u8.max = 255 by decide) ▸ h0.2⟩
 exact ⟨x.toNat, by omega, by omega⟩
abbrev WfC (x : TColor) : Prop := (Lit.int .u8 x.Red).wf = true ∧ (Lit.int .u8 x.Green).wf = true ∧ (Lit.int .u8 x.Blue).wf = true ∧ (Lit.int .u8 x.Alpha).wf = true
def c0 : TColor := TColor.mk 0 0 0 0
inductive Shp : TVal → Prop
 | word (w : Str) : w ≠ [] → Shp ⟨1, w, 0, c0⟩
 | color (c : TColor) : Shp ⟨7, [], 0, c⟩
 | current : Shp ⟨8, [], 0, c0⟩
 | int (n : Int) : -1000000000 ≤ n → n ≤ 1000000000 → Shp ⟨6, [], n, c0⟩
 | num (k n : Int) : k = 2 ∨ k = 3 ∨ k = 4 ∨ k = 5 → -1000000000000 ≤ n → n ≤ 1000000000000 → Shp ⟨k, [], n, c0⟩
theorem and5 {w w' : Str} {n n' r r' g g' b b' a a' : Int} (h : ((w == w') && ((n == n') && (((r == r') && ((g == g') && ((b == b') && ((a == a') && true)))) && true))) = true) : w = w' ∧ n = n' ∧ r = r' ∧ g = g' ∧ b = b' ∧ a = a' := by
 simp only [Bool.and_eq_true, Bool.and_true, beq_iff_eq] at h
 exact ⟨h.1, h.2.1, h.2.2.1, h.2.2.2.1, h.2.2.2.2.1, h.2.2.2.2.2⟩
theorem shape_of (v : TVal) (h : r25_Check v = some 0) : Shp v := by
 obtain ⟨k, w, n, ⟨r, g, b, a⟩⟩ := v
 unfold r25_Check at h
 have fin : ∀ (L : Int) (x : Bool), 0 < L → cond (cond (cond (!x) true (decide (L < n))) true (decide (n < w64 (0 - L)))) (some (8 : Int)) (some 0) = some 0 → w64 (0 - L) = -L → (-L ≤ n ∧ n ≤ L) ∧ x = true := fun L x _ hc hw => by
  rw [hw] at hc
  cases x with
  | false => cases hc
  | true =>
   by_cases h1 : L < n
   ·rw [decide_eq_true h1] at hc; cases hc
   ·by_cases h2 : n < -L
    ·rw [decide_eq_true h2, decide_eq_false h1] at hc; cases hc
    ·exact ⟨by omega, rfl⟩
 have kk : ∀ (j : Int) (x : Bool), ((j == j) && x) = x := fun j x => by rw [beq_self_eq_true, Bool.true_and]
 by_cases h1 : k = 1
 ·subst h1
  by_cases hw : w = []
  ·subst hw; cases h
  ·have hb : (w == []) = false := beq_eq_false_iff_ne.2 hw
   simp only [show ((1 : Int) == 1) = true from rfl, hb, cond_true, cond_false, Option.bind_some, sumK, lt_eq, kk] at h
   have h2 := fin 1000000000000 _ (by decide) h (by decide)
   obtain ⟨_, h3, h4, h5, h6, h7⟩ := and5 h2.2
   subst h3; subst h4; subst h5; subst h6; subst h7
   exact Shp.word w hw
 by_cases h7 : k = 7
 ·subst h7
  have h2 := fin 1000000000000 _ (by decide) h (by decide)
  have h2' : ((w == ([] : Str)) && ((n == (0 : Int)) && (((r == r) && ((g == g) && ((b == b) && ((a == a) && true)))) && true))) = true := (kk 7 _).symm.trans h2.2
  obtain ⟨h3, h4, _⟩ := and5 h2'
  subst h3; subst h4
  exact Shp.color _
 by_cases h8 : k = 8
 ·subst h8
  have h2 := fin 1000000000000 _ (by decide) h (by decide)
  have h2' : ((w == ([] : Str)) && ((n == (0 : Int)) && (((r == 0) && ((g == 0) && ((b == 0) && ((a == 0) && true)))) && true))) = true := (kk 8 _).symm.trans h2.2
  obtain ⟨h3, h4, h5, h6, h7, h8⟩ := and5 h2'
  subst h3; subst h4; subst h5; subst h6; subst h7; subst h8
  exact Shp.current
 by_cases h6 : k = 6
 ·subst h6
  have h2 := fin 1000000000 _ (by decide) h (by decide)
  have h2' : ((w == ([] : Str)) && ((n == n) && (((r == 0) && ((g == 0) && ((b == 0) && ((a == 0) && true)))) && true))) = true := (kk 6 _).symm.trans h2.2
  obtain ⟨h3, h4, h5, h6, h7, h8⟩ := and5 h2'
  subst h3; subst h5; subst h6; subst h7; subst h8
  exact Shp.int n h2.1.1 h2.1.2
 have num : (k = 2 ∨ k = 3 ∨ k = 4 ∨ k = 5) → Shp ⟨k, w, n, ⟨r, g, b, a⟩⟩ := by
  intro hk
  have h2 : (-1000000000000 ≤ n ∧ n ≤ 1000000000000) ∧ ((w == ([] : Str)) && ((n == n) && (((r == 0) && ((g == 0) && ((b == 0) && ((a == 0) && true)))) && true))) = true := by
   rcases hk with rfl | rfl | rfl | rfl
   ·have h2 := fin 1000000000000 _ (by decide) h (by decide)
    exact ⟨h2.1, (kk 2 _).symm.trans h2.2⟩
   ·have h2 := fin 1000000000000 _ (by decide) h (by decide)
    exact ⟨h2.1, (kk 3 _).symm.trans h2.2⟩
   ·have h2 := fin 1000000000000 _ (by decide) h (by decide)
    exact ⟨h2.1, (kk 4 _).symm.trans h2.2⟩
   ·have h2 := fin 1000000000000 _ (by decide) h (by decide)
    exact ⟨h2.1, (kk 5 _).symm.trans h2.2⟩
  obtain ⟨h3, h4, h5, h6, h7, h8⟩ := and5 h2.2
  subst h3; subst h5; subst h6; subst h7; subst h8
  exact Shp.num k n hk h2.1.1 h2.1.2
 by_cases h2 : k = 2
 ·exact num (Or.inl h2)
 by_cases h3 : k = 3
 ·exact num (Or.inr (Or.inl h3))
 by_cases h4 : k = 4
 ·exact num (Or.inr (Or.inr (Or.inl h4)))
 by_cases h5 : k = 5
 ·exact num (Or.inr (Or.inr (Or.inr h5)))
 have f : ∀ j : Int, k ≠ j → (k == j) = false := fun j h => beq_eq_false_iff_ne.2 h
 simp only [f _ h1, f _ h2, f _ h3, f _ h4, f _ h5, f _ h6, f _ h7, f _ h8, sumK, Option.bind_some, cond_false] at h
 cases h
theorem numI_bytes (n : Int) : ∀ x ∈ numI n, x = 45 ∨ isd x = true ∨ x = 46 := by
 intro x hx
 unfold numI at hx
 rcases List.mem_append.1 hx with h | h
 ·cases hb : decide (n < 0) <;> rw [hb] at h
  ·cases h
  ·exact Or.inl (List.mem_singleton.1 h)
 ·rw [numS_eq] at h
  rcases List.mem_append.1 h with h | h
  ·exact Or.inr (Or.inl (dd_dig _ _ (Nat.lt_succ_self _) x h))
  ·by_cases h0 : n.natAbs % 1000 = 0
   ·rw [h0] at h; cases h
   ·rw [beq_z h0, cond_false] at h
    rcases List.mem_cons.1 h with h | h
    ·exact Or.inr (Or.inr h)
    ·exact Or.inr (Or.inl ((frac_at h0 (Nat.mod_lt _ (by decide))).2.1 x h))
theorem numI_clean (n : Int) : ∀ x ∈ numI n, clB x = true ∧ isb 47 x = false := by
 intro x hx
 rcases numI_bytes n x hx with rfl | h | rfl
 ·exact ⟨rfl, rfl⟩
 ·have hc' : 48 ≤ x.toNat ∧ x.toNat ≤ 57 := by unfold isd at h; simpa using h
  exact ⟨by unfold clB; exact decide_eq_true (by omega), (isd_not h).1⟩
 ·exact ⟨rfl, rfl⟩
theorem num_of (n : Int) (h1 : -1000000000000 ≤ n) (h2 : n ≤ 1000000000000) : r04_Of 300 (numI n) = some [tvT (TToken.mk 10 [] n [] (Nat.beq (n.natAbs % 1000) 0))] := by
 have ht := numI_t n h1 h2
 have hl := ht.len
 obtain ⟨c, r, hc, _⟩ := ht.head
 have hp : 0 < (numI n).length := by rw [hc]; simp
 have hd0 : (numI n).drop 0 = numI n ++ [] := by rw [List.append_nil]; rfl
 have hend : (numI n).drop (0 + (numI n).length) = [] := drop_ap hd0
 have ho := one_num (numI n) (numI n) [] n _ ht (by omega) 0 (Nat.zero_le _) hd0 rfl (by
  unfold nam
  rw [tst_nil hend, cond_false, tst_nil hend, cond_false]
  exact esc_no (tst_nil hend)) (tst_nil hend)
 rw [Nat.zero_add] at ho
 refine of_one (numI n) (by omega) (fun x hx => (numI_clean n x hx).1) ?_ hp _ ho rfl
 have hd : (numI n).drop 0 = c :: r := hc
 rw [tst_at0 hd]
 exact (numI_clean n c (by rw [hc]; exact List.mem_cons_self)).2
theorem dim_of (n : Int) (h1 : -1000000000000 ≤ n) (h2 : n ≤ 1000000000000) (U : Str) (u : UInt8) (q : Str) (hU : U = u :: q) (hul : U.length ≤ 10) (hR : stopB U = true) (hl1 : ∀ b ∈ U, let1 b = true) (hcl : ∀ b ∈ U, clB b = true) (hf : fst1 u = true) (h45 : isb 45 u = false) : ∃ f, r04_Of 300 (numI n ++ U) = some [tvT (TToken.mk 12 [] n U f)] := by
 have ht := numI_t n h1 h2
 have hl := ht.len
 obtain ⟨c, r, hc, _⟩ := ht.head
 have hsl : (numI n ++ U).length ≤ 250 := by rw [List.length_append]; omega
 have hp : 0 < (numI n ++ U).length := by rw [hc]; simp
 have hdN : (numI n ++ U).drop (numI n).length = u :: q := by rw [List.drop_left, hU]
 have ho := one_dim (numI n ++ U) (numI n) U n _ ht hsl rfl hR hl1 (by
  unfold nam
  rw [tst_at0 hdN, h45, cond_false, tst_at0 hdN, hf, cond_true])
 refine ⟨_, of_one (numI n ++ U) hsl (fun x hx => ?_) ?_ hp _ ho rfl⟩
 ·rcases List.mem_append.1 hx with h | h
  ·exact (numI_clean n x h).1
  ·exact hcl x h
 ·have hd : (numI n ++ U).drop 0 = c :: (r ++ U) := by rw [hc]; rfl
  rw [tst_at0 hd]
  exact (numI_clean n c (by rw [hc]; exact List.mem_cons_self)).2
theorem parse1 (prop : Int) (v : TValue) (x : TVal) (r : List TVal) (hp : 0 ≤ prop ∧ prop < 18) (hm : parseval_maybe 300 v = some (x :: r)) (hx : props_Has 64 prop x = some (true, 0)) : parseval_Parse 300 prop [v] = some (x, 0) := by
 unfold parseval_Parse
 rw [decide_eq_false (show ¬ prop < 0 from by omega), decide_eq_false (show ¬ (18 : Int) ≤ prop from by omega), cond_false, lt_eq, cond_false, show (ln [v] != 1) = false from rfl, cond_false, chk_pos (by unfold ln; simp), show gi [v] (0 : Int) = v from rfl, hm, Option.bind_some]
 have h1 : parseval_Parse_L1 300 prop (x :: r) 300 0 = some (.inl (x, 0)) := by
  rw [parseval_Parse_L1, show decide ((0 : Int) < ln (x :: r)) = true from lt_dec (i := 0) (by simp), cond_true, show (chk (0 ≤ (0 : Int) ∧ (0 : Int) < ln (x :: r))) = (chk (0 ≤ ((0 : Nat) : Int) ∧ ((0 : Nat) : Int) < ln (x :: r))) from rfl, chk_ix (by simp), show gi (x :: r) (0 : Int) = x from rfl, hx]
  rfl
 rw [h1]
 rfl
theorem parse2 (prop : Int) (v : TValue) (y x : TVal) (r : List TVal) (hp : 0 ≤ prop ∧ prop < 18) (hm : parseval_maybe 300 v = some (y :: x :: r)) (hy : ∃ e, props_Has 64 prop y = some (false, e)) (hx : props_Has 64 prop x = some (true, 0)) : parseval_Parse 300 prop [v] = some (x, 0) := by
 unfold parseval_Parse
 rw [decide_eq_false (show ¬ prop < 0 from by omega), decide_eq_false (show ¬ (18 : Int) ≤ prop from by omega), cond_false, lt_eq, cond_false, show (ln [v] != 1) = false from rfl, cond_false, chk_pos (by unfold ln; simp), show gi [v] (0 : Int) = v from rfl, hm, Option.bind_some]
 obtain ⟨e, hy⟩ := hy
 have h2 : parseval_Parse_L1 300 prop (y :: x :: r) 299 1 = some (.inl (x, 0)) := by
  rw [parseval_Parse_L1, show decide ((1 : Int) < ln (y :: x :: r)) = true from lt_dec (i := 1) (by simp), cond_true, show (chk (0 ≤ (1 : Int) ∧ (1 : Int) < ln (y :: x :: r))) = (chk (0 ≤ ((1 : Nat) : Int) ∧ ((1 : Nat) : Int) < ln (y :: x :: r))) from rfl, chk_ix (by simp), show gi (y :: x :: r) (1 : Int) = x from rfl, hx]
  rfl
 have h1 : parseval_Parse_L1 300 prop (y :: x :: r) 300 0 = some (.inl (x, 0)) := by
  rw [parseval_Parse_L1, show decide ((0 : Int) < ln (y :: x :: r)) = true from lt_dec (i := 0) (by simp), cond_true, show (chk (0 ≤ (0 : Int) ∧ (0 : Int) < ln (y :: x :: r))) = (chk (0 ≤ ((0 : Nat) : Int) ∧ ((0 : Nat) : Int) < ln (y :: x :: r))) from rfl, chk_ix (by simp), show gi (y :: x :: r) (0 : Int) = y from rfl, hy, Option.bind_some]
  exact h2
 rw [h1]
 rfl
theorem color_no (t : TToken) (h1 : (t.Kind == 1) = false) (h4 : (t.Kind == 4) = false) (h2 : (t.Kind == 2) = false) : parseval_color 300 (tvT t) = some (c0, false) := by
 unfold parseval_color tvT
 rw [show (TValue.mk t []).Token = t from rfl, h1, h4, h2]
 rfl
theorem chk_app {β : Type} (a b : List TVal) (k : Option β) (ha : a.length ≤ 10) (hb : b.length ≤ 10) : chk (ln a + ln b ≤ 1099511627776) k = k := chk_pos (by unfold ln; omega)
theorem maybe_dim (n : Int) (U : Str) (f : Bool) (k : Int) (hs : parseval_small 300 U = some U) (hk : gi ([2, 3, 4, 0] : List Int) (x_key ([[112, 120], [101, 109], [114, 101, 109]] : List Str) U) = k) (h0 : 0 < k) : parseval_maybe 300 (tvT (TToken.mk 12 [] n U f)) = some [⟨k, [], n, c0⟩] := by
 unfold parseval_maybe
 rw [color_no _ rfl rfl rfl, Option.bind_some]
 show Option.bind (some ([] : List TVal)) _ = _
 rw [Option.bind_some, show ((tvT (TToken.mk 12 [] n U f)).Token.Kind == 1) = false from rfl, cond_false, show ((tvT (TToken.mk 12 [] n U f)).Token.Kind == 12) = true from rfl, cond_true, show (tvT (TToken.mk 12 [] n U f)).Token.Unit = U from rfl, hs, Option.bind_some, lt_eq, hk, lt_eq, decide_eq_true h0, cond_true, chk_app _ _ _ (by decide) (by simp), lt_eq, Option.bind_some]
 rfl
theorem maybe_num (n : Int) (f : Bool) : ∃ r, parseval_maybe 300 (tvT (TToken.mk 10 [] n [] f)) = some (cond f [⟨6, [], w64 (Int.tdiv n 1000), c0⟩] [] ++ ⟨5, [], n, c0⟩ :: r) := by
 unfold parseval_maybe
 rw [color_no _ rfl rfl rfl, Option.bind_some]
 show ∃ r, Option.bind (some ([] : List TVal)) _ = _
 rw [Option.bind_some, show ((tvT (TToken.mk 10 [] n [] f)).Token.Kind == 1) = false from rfl, cond_false, show ((tvT (TToken.mk 10 [] n [] f)).Token.Kind == 12) = false from rfl, cond_false, show ((tvT (TToken.mk 10 [] n [] f)).Token.Kind == 10) = true from rfl, cond_true, show (tvT (TToken.mk 10 [] n [] f)).Token.Flag = f from rfl, show (tvT (TToken.mk 10 [] n [] f)).Token.Num = n from rfl]
 cases f
 ·rw [cond_false, cond_false, Option.bind_some, chk_app _ _ _ (by decide) (by simp), lt_eq]
  cases (n == 0)
  ·exact ⟨[], rfl⟩
  ·rw [cond_true, chk_app _ _ _ (by simp) (by simp), lt_eq]
   exact ⟨_, rfl⟩
 ·rw [cond_true, cond_true, chk_app _ _ _ (by decide) (by simp), lt_eq, Option.bind_some, chk_app _ _ _ (by simp) (by simp), lt_eq]
  cases (n == 0)
  ·exact ⟨[], rfl⟩
  ·rw [cond_true, chk_app _ _ _ (by simp) (by simp), lt_eq]
   exact ⟨_, rfl⟩
theorem maybe_col (v : TValue) (c : TColor) (hc : parseval_color 300 v = some (c, true)) (hk : v.Token.Kind = 2 ∨ v.Token.Kind = 4) : parseval_maybe 300 v = some [⟨7, [], 0, c⟩] := by
 unfold parseval_maybe
 rw [hc, Option.bind_some]
 dsimp only
 rw [cond_true, chk_pos (by unfold ln; simp), lt_eq, Option.bind_some]
 rcases hk with h | h <;> rw [h] <;> rfl
end Go.Proofs.YtemchjneoalnoaaGreatDoor

/-
 What a property has, and what is read for it: both readers agree whether something is read. No program in sight.
-/
import Derived.Test.YtpgflfjmjppmeaaGreatDoorT5
set_option linter.unusedVariables false
set_option maxRecDepth 100000
namespace Go.Proofs.YtpgflfjmjppmeaaGreatDoor
open Go Go.V Go.RowKit
theorem clamp_eq (n L : Int) (hL : 0 < L) : (n == if -L < if n < L then n else L then if n < L then n else L else -L) = !(cond (decide (L < n)) true (decide (n < -L))) := by
 by_cases h1 : n < L
 ·rw [if_pos h1, decide_eq_false (show ¬ L < n from by omega)]
  by_cases h2 : -L < n
  ·rw [if_pos h2, decide_eq_false (show ¬ n < -L from by omega)]; simp
  ·rw [if_neg h2]
   by_cases h3 : n < -L
   ·rw [decide_eq_true h3, beq_eq_false_iff_ne.2 (show n ≠ -L from by omega)]; rfl
   ·rw [decide_eq_false h3, show n = -L from by omega]; simp
 ·rw [if_neg h1]
  by_cases h3 : L < n
  ·rw [decide_eq_true h3, if_pos (show -L < L from by omega), beq_eq_false_iff_ne.2 (show n ≠ L from by omega)]; rfl
  ·rw [decide_eq_false h3, if_pos (show -L < L from by omega), decide_eq_false (show ¬ n < -L from by omega), show n = L from by omega]; simp
theorem zero_rng (n L : Int) (hL : 0 < L) (h : (n == 0) = true) : decide (L < n) = false ∧ decide (n < -L) = false := by
 have : n = 0 := by simpa using h
 subst this
 exact ⟨decide_eq_false (by omega), decide_eq_false (by omega)⟩
theorem w12 : w64 (0 - 1000000000000) = -1000000000000 := by decide
theorem w12m : w64 (-1000000000000) = -1000000000000 := by decide
theorem w9 : w64 (0 - 1000000000) = -1000000000 := by decide
theorem w9' : w64 (Int.tdiv 1000000000000 1000) = 1000000000 := by decide
theorem check_eq (v : TVal) : props_Check v = r25_Check v := by
 obtain ⟨k, w, n, ⟨r, g, b, a⟩⟩ := v
 unfold props_Check r25_Check
 simp only [w9']
 by_cases h1 : k = 1
 ·subst h1
  cases hn : (n == 0)
  ·simp only [show ((1 : Int) == 2) = false from rfl, show ((1 : Int) == 3) = false from rfl, show ((1 : Int) == 4) = false from rfl, show ((1 : Int) == 5) = false from rfl, show ((1 : Int) == 6) = false from rfl, show ((1 : Int) == 7) = false from rfl, show ((1 : Int) == 8) = false from rfl, sumK, Option.bind_some, beq_self_eq_true, cond_true, cond_false, Bool.true_and, Bool.and_true, lt, hn]
   cases hw : (w == ([] : Str)) <;> simp [hn, w12m]
  ·obtain ⟨z1, z2⟩ := zero_rng n 1000000000000 (by decide) hn
   simp only [show ((1 : Int) == 2) = false from rfl, show ((1 : Int) == 3) = false from rfl, show ((1 : Int) == 4) = false from rfl, show ((1 : Int) == 5) = false from rfl, show ((1 : Int) == 6) = false from rfl, show ((1 : Int) == 7) = false from rfl, show ((1 : Int) == 8) = false from rfl, sumK, Option.bind_some, beq_self_eq_true, cond_true, cond_false, Bool.true_and, Bool.and_true, lt, hn]
   cases hw : (w == ([] : Str)) <;> simp [hn, z1, z2, w12m]
 by_cases h2 : k = 2
 ·subst h2; clear h1
  simp only [show ((2 : Int) == 1) = false from rfl, show ((2 : Int) == 3) = false from rfl, show ((2 : Int) == 4) = false from rfl, show ((2 : Int) == 5) = false from rfl, show ((2 : Int) == 6) = false from rfl, show ((2 : Int) == 7) = false from rfl, show ((2 : Int) == 8) = false from rfl, sumK, Option.bind_some, beq_self_eq_true, cond_true, cond_false, Bool.true_and, Bool.and_true, lt, w12]
  rw [clamp_eq n _ (by decide)]
  generalize (w == []) = x
  generalize decide (1000000000000 < n) = p
  generalize decide (n < -1000000000000) = q
  generalize (r == 0 && (g == 0 && (b == 0 && a == 0))) = y
  cases x <;> cases y <;> cases p <;> cases q <;> rfl
 by_cases h3 : k = 3
 ·subst h3; clear h1 h2
  simp only [show ((3 : Int) == 1) = false from rfl, show ((3 : Int) == 2) = false from rfl, show ((3 : Int) == 4) = false from rfl, show ((3 : Int) == 5) = false from rfl, show ((3 : Int) == 6) = false from rfl, show ((3 : Int) == 7) = false from rfl, show ((3 : Int) == 8) = false from rfl, sumK, Option.bind_some, beq_self_eq_true, cond_true, cond_false, Bool.true_and, Bool.and_true, lt, w12]
  rw [clamp_eq n _ (by decide)]
  generalize (w == []) = x
  generalize decide (1000000000000 < n) = p
  generalize decide (n < -1000000000000) = q
  generalize (r == 0 && (g == 0 && (b == 0 && a == 0))) = y
  cases x <;> cases y <;> cases p <;> cases q <;> rfl
 by_cases h4 : k = 4
 ·subst h4; clear h1 h2 h3
  simp only [show ((4 : Int) == 1) = false from rfl, show ((4 : Int) == 2) = false from rfl, show ((4 : Int) == 3) = false from rfl, show ((4 : Int) == 5) = false from rfl, show ((4 : Int) == 6) = false from rfl, show ((4 : Int) == 7) = false from rfl, show ((4 : Int) == 8) = false from rfl, sumK, Option.bind_some, beq_self_eq_true, cond_true, cond_false, Bool.true_and, Bool.and_true, lt, w12]
  rw [clamp_eq n _ (by decide)]
  generalize (w == []) = x
  generalize decide (1000000000000 < n) = p
  generalize decide (n < -1000000000000) = q
  generalize (r == 0 && (g == 0 && (b == 0 && a == 0))) = y
  cases x <;> cases y <;> cases p <;> cases q <;> rfl
 by_cases h5 : k = 5
 ·subst h5; clear h1 h2 h3 h4
  simp only [show ((5 : Int) == 1) = false from rfl, show ((5 : Int) == 2) = false from rfl, show ((5 : Int) == 3) = false from rfl, show ((5 : Int) == 4) = false from rfl, show ((5 : Int) == 6) = false from rfl, show ((5 : Int) == 7) = false from rfl, show ((5 : Int) == 8) = false from rfl, sumK, Option.bind_some, beq_self_eq_true, cond_true, cond_false, Bool.true_and, Bool.and_true, lt, w12]
  rw [clamp_eq n _ (by decide)]
  generalize (w == []) = x
  generalize decide (1000000000000 < n) = p
  generalize decide (n < -1000000000000) = q
  generalize (r == 0 && (g == 0 && (b == 0 && a == 0))) = y
  cases x <;> cases y <;> cases p <;> cases q <;> rfl
 by_cases h6 : k = 6
 ·subst h6; clear h1 h2 h3 h4 h5
  simp only [show ((6 : Int) == 1) = false from rfl, show ((6 : Int) == 2) = false from rfl, show ((6 : Int) == 3) = false from rfl, show ((6 : Int) == 4) = false from rfl, show ((6 : Int) == 5) = false from rfl, show ((6 : Int) == 7) = false from rfl, show ((6 : Int) == 8) = false from rfl, sumK, Option.bind_some, beq_self_eq_true, cond_true, cond_false, Bool.true_and, Bool.and_true, lt, w9]
  rw [clamp_eq n _ (by decide)]
  generalize (w == []) = x
  generalize decide (1000000000 < n) = p
  generalize decide (n < -1000000000) = q
  generalize (r == 0 && (g == 0 && (b == 0 && a == 0))) = y
  cases x <;> cases y <;> cases p <;> cases q <;> rfl
 by_cases h7 : k = 7
 ·subst h7; clear h1 h2 h3 h4 h5 h6
  cases hn : (n == 0)
  ·simp only [show ((7 : Int) == 1) = false from rfl, show ((7 : Int) == 2) = false from rfl, show ((7 : Int) == 3) = false from rfl, show ((7 : Int) == 4) = false from rfl, show ((7 : Int) == 5) = false from rfl, show ((7 : Int) == 6) = false from rfl, show ((7 : Int) == 8) = false from rfl, sumK, Option.bind_some, beq_self_eq_true, cond_true, cond_false, Bool.true_and, Bool.and_true, lt, w12, hn]
   cases hw : (w == ([] : Str)) <;> simp []
  ·obtain ⟨z1, z2⟩ := zero_rng n 1000000000000 (by decide) hn
   simp only [show ((7 : Int) == 1) = false from rfl, show ((7 : Int) == 2) = false from rfl, show ((7 : Int) == 3) = false from rfl, show ((7 : Int) == 4) = false from rfl, show ((7 : Int) == 5) = false from rfl, show ((7 : Int) == 6) = false from rfl, show ((7 : Int) == 8) = false from rfl, sumK, Option.bind_some, beq_self_eq_true, cond_true, cond_false, Bool.true_and, Bool.and_true, lt, w12, hn, z1, z2]
   cases hw : (w == ([] : Str)) <;> simp []
 by_cases h8 : k = 8
 ·subst h8; clear h1 h2 h3 h4 h5 h6 h7
  cases hn : (n == 0)
  ·simp only [show ((8 : Int) == 1) = false from rfl, show ((8 : Int) == 2) = false from rfl, show ((8 : Int) == 3) = false from rfl, show ((8 : Int) == 4) = false from rfl, show ((8 : Int) == 5) = false from rfl, show ((8 : Int) == 6) = false from rfl, show ((8 : Int) == 7) = false from rfl, sumK, Option.bind_some, beq_self_eq_true, cond_true, cond_false, Bool.true_and, Bool.and_true, lt, w12, hn]
   cases hw : (w == ([] : Str)) <;> simp []
  ·obtain ⟨z1, z2⟩ := zero_rng n 1000000000000 (by decide) hn
   simp only [show ((8 : Int) == 1) = false from rfl, show ((8 : Int) == 2) = false from rfl, show ((8 : Int) == 3) = false from rfl, show ((8 : Int) == 4) = false from rfl, show ((8 : Int) == 5) = false from rfl, show ((8 : Int) == 6) = false from rfl, show ((8 : Int) == 7) = false from rfl, sumK, Option.bind_some, beq_self_eq_true, cond_true, cond_false, Bool.true_and, Bool.and_true, lt, w12, hn, z1, z2]
   cases hw : (w == ([] : Str)) <;> simp []
 have f : ∀ j : Int, k ≠ j → (k == j) = false := fun j h => beq_eq_false_iff_ne.2 h
 simp only [f _ h1, f _ h2, f _ h3, f _ h4, f _ h5, f _ h6, f _ h7, f _ h8, sumK, Option.bind_some, beq_self_eq_true, cond_false, Bool.true_and, Bool.and_true, lt]
theorem check_some (v : TVal) : ∃ e, props_Check v = some e ∧ r25_Check v = some e := by
 suffices h : ∃ e, r25_Check v = some e by
  obtain ⟨e, he⟩ := h
  exact ⟨e, (check_eq v).trans he, he⟩
 obtain ⟨k, w, n, ⟨r, g, b, a⟩⟩ := v
 unfold r25_Check
 simp only [lt]
 have f : ∀ (c : Bool) (x y : Int), ∃ e, (cond c (some x) (some y)) = some e := fun c x y => by cases c; exact ⟨y, rfl⟩; exact ⟨x, rfl⟩
 cases (k == 1) <;> cases (w == ([] : Str)) <;> cases (k == 2) <;> cases (k == 3) <;> cases (k == 4) <;> cases (k == 5) <;> cases (k == 6) <;> cases (k == 7) <;> cases (k == 8) <;> first | exact f _ _ _ | exact ⟨_, rfl⟩
theorem words_lt : (tab.all fun p => decide (p.Words.length < 60) && decide (p.Kinds.length < 60) && !(p.Kinds.contains 1)) = true := by kernel_rfl
theorem gi_mem {prop : Int} (h : 0 ≤ prop ∧ prop < ln tab) : gi tab prop ∈ tab := by
 obtain ⟨i, rfl⟩ : ∃ i : Nat, prop = i := ⟨prop.toNat, by omega⟩
 have hi : i < tab.length := by unfold ln at h; omega
 rw [gi_nat _ _ hi]
 exact List.getElem_mem _
theorem cont_i (l : List Int) (x : Int) (h : l.length < 60) : slices_Contains_uint8_uint8 64 l x = some (scanO (fun i => x == gi l i) l.length 0).isSome := by
 have h1 := scan_of (slices_Index_uint8_uint8_L1 64 l x) (fun i => x == gi l i) (fun i => Sum.inl i) (Sum.inr ()) (ln l) l.length rfl (by omega)
  (fun kk i hi => by rw [slices_Index_uint8_uint8_L1]; exact scan_chk hi) l.length 0 64 rfl (by omega) (by omega)
 unfold slices_Contains_uint8_uint8 slices_Index_uint8_uint8
 rw [show (0 : Int) = ((0 : Nat) : Int) from rfl, h1]
 cases hf : scanO (fun i => x == gi l i) l.length 0 with
 | none => rfl
 | some r =>
  have h0 := scanO_ge _ _ _ _ hf
  have h2 : decide (((0 : Nat) : Int) ≤ r) = true := decide_eq_true (by omega)
  show some (decide (((0 : Nat) : Int) ≤ r)) = _
  rw [h2]
  rfl
def hasW (p : TProp) (w : Str) : Bool := (scanO (fun i => w == gi p.Words i) p.Words.length 0).isSome
def hasK (p : TProp) (v : TVal) : Bool := cond (scanO (fun i => v.Kind == gi p.Kinds i) p.Kinds.length 0).isSome (cond (!p.Least) true (decide (0 ≤ v.Num))) false
def hasA (prop : Int) (v : TVal) (e : Int) : Bool × Int := cond (cond (decide (prop < 0)) true (decide (18 ≤ prop))) (false, 2)
 (cond (e != 0) (false, 0) (cond (v.Kind == 1) (hasW (gi tab prop) v.Word, 0) (hasK (gi tab prop) v, 0)))
theorem rng {prop : Int} (h : cond (decide (prop < 0)) true (decide (18 ≤ prop)) = false) : 0 ≤ prop ∧ prop < ln tab := by
 rw [tab_ln]
 by_cases h1 : prop < 0
 ·rw [decide_eq_true h1] at h; cases h
 ·rw [decide_eq_false h1] at h
  have : ¬ (18 ≤ prop) := of_decide_eq_false h
  omega
theorem lens {prop : Int} (h : 0 ≤ prop ∧ prop < ln tab) : (gi tab prop).Words.length < 60 ∧ (gi tab prop).Kinds.length < 60 ∧ (gi tab prop).Kinds.contains 1 = false := by
 have := List.all_eq_true.1 words_lt _ (gi_mem h)
 simp only [Bool.and_eq_true, decide_eq_true_eq, Bool.not_eq_true'] at this
 exact ⟨this.1.1, this.1.2, this.2⟩
theorem has_p (prop : Int) (v : TVal) (e : Int) (he : props_Check v = some e) : props_Has 64 prop v = some (hasA prop v e) := by
 unfold props_Has hasA
 simp only [lt_eq]
 cases hr : cond (decide (prop < 0)) true (decide (18 ≤ prop))
 ·have h0 := rng hr
  obtain ⟨l1, l2, _⟩ := lens h0
  simp only [cond_false]
  rw [tab_p]
  simp only [Option.bind_some]
  rw [chk_pos h0, he]
  simp only [Option.bind_some]
  cases (e != 0)
  ·simp only [cond_false]
   rw [cont_s _ _ l1, cont_i _ _ l2]
   simp only [Option.bind_some]
   cases (v.Kind == 1) <;> rfl
  ·rfl
 ·rfl
theorem has_r (prop : Int) (v : TVal) (e : Int) (he : r25_Check v = some e) : r25_Has 64 prop v = some (hasA prop v e) := by
 unfold r25_Has hasA
 rw [tab_r]
 simp only [lt_eq, Option.bind_some]
 rw [show ln tab = 18 from tab_ln]
 cases hr : cond (decide (prop < 0)) true (decide (18 ≤ prop))
 ·have h0 := rng hr
  obtain ⟨l1, l2, _⟩ := lens h0
  simp only [cond_false]
  rw [he]
  simp only [Option.bind_some]
  cases (e != 0)
  ·simp only [cond_false]
   rw [← show ln tab = 18 from tab_ln, chk_pos h0]
   have hw := scan_of (r25_Has_L1 64 prop v tab) (fun i => v.Word == gi (gi tab prop).Words i) (fun i => Sum.inl (Sum.inl (true, 0))) (Sum.inr ()) (ln (gi tab prop).Words) (gi tab prop).Words.length rfl (by omega)
    (fun kk i hi => by rw [r25_Has_L1, beqc]; exact scan_chk hi) _ 0 64 rfl (by omega) (by omega)
   have hk := scan_of (r25_Has_L2 64 prop v tab) (fun i => v.Kind == gi (gi tab prop).Kinds i) (fun i => Sum.inl (cond (!(gi tab prop).Least) true (decide (0 ≤ v.Num)), 0)) (Sum.inr ()) (ln (gi tab prop).Kinds) (gi tab prop).Kinds.length rfl (by omega)
    (fun kk i hi => by rw [r25_Has_L2, beqc]; exact scan_chk hi) _ 0 64 rfl (by omega) (by omega)
   rw [show (0 : Int) = ((0 : Nat) : Int) from rfl, hw, hk]
   unfold hasW hasK
   cases (v.Kind == 1)
   ·cases hf : scanO (fun i => v.Kind == gi (gi tab prop).Kinds i) (gi tab prop).Kinds.length 0 <;> rfl
   ·cases hf : scanO (fun i => v.Word == gi (gi tab prop).Words i) (gi tab prop).Words.length 0 <;> rfl
  ·rfl
 ·rfl
theorem check_col (c : TColor) : props_Check ⟨7, [], 0, c⟩ = some 0 := by
 unfold props_Check
 simp [lt_eq, sumK]
def hasO (prop : Int) (v : TVal) : Bool × Int := (props_Has 64 prop v).getD (false, 0)
theorem has_o (prop : Int) (v : TVal) : props_Has 64 prop v = some (hasO prop v) ∧ r25_Has 64 prop v = some (hasO prop v) := by
 obtain ⟨e, h1, h2⟩ := check_some v
 have h3 := has_p prop v e h1
 have h4 := has_r prop v e h2
 unfold hasO
 rw [h3, h4]
 exact ⟨rfl, rfl⟩
theorem has_col (prop : Int) (c c' : TColor) : hasO prop ⟨7, [], 0, c⟩ = hasO prop ⟨7, [], 0, c'⟩ := by
 unfold hasO
 rw [has_p prop _ 0 (check_col c), has_p prop _ 0 (check_col c')]
 rfl
theorem has_out {prop : Int} (h : cond (decide (prop < 0)) true (decide (18 ≤ prop)) = true) (v : TVal) : (hasO prop v).2 = 2 := by
 obtain ⟨e, h1, h2⟩ := check_some v
 unfold hasO
 rw [has_p prop v e h1]
 unfold hasA
 rw [h]
 rfl
theorem has_in {prop : Int} (h : cond (decide (prop < 0)) true (decide (18 ≤ prop)) = false) (v : TVal) : (hasO prop v).2 = 0 := by
 obtain ⟨e, h1, h2⟩ := check_some v
 unfold hasO
 rw [has_p prop v e h1]
 unfold hasA
 rw [h, cond_false]
 cases (e != 0)
 ·cases (v.Kind == 1) <;> rfl
 ·rfl
def oks (prop : Int) (q : List TVal) : Bool := q.any fun x => (hasO prop x).1
theorem ps_p (prop : Int) (q : List TVal) (hl : q.length ≤ 10) : ∀ (kk i : Nat), q.length - i < kk → i ≤ q.length →
  (oks prop (q.drop i) = true ∧ ∃ x, parseval_Parse_L1 FU prop q kk (i : Int) = some (.inl (x, 0))) ∨ (oks prop (q.drop i) = false ∧ parseval_Parse_L1 FU prop q kk (i : Int) = some (.inr ())) := by
 intro kk
 induction kk with
 | zero => intro i h; omega
 | succ kk ih =>
  intro i h hi
  rw [parseval_Parse_L1]
  by_cases h1 : i < q.length
  ·rw [lt_dec h1, cond_true, chk_ix h1, (has_o prop _).1, Option.bind_some, List.drop_eq_getElem_cons h1, gi_nat q i h1]
   unfold oks
   rw [List.any_cons]
   cases hh : (hasO prop q[i]).1
   ·rw [Bool.false_or, cond_false, w64_ix (by omega)]
    exact ih (i + 1) (by omega) (by omega)
   ·left
    exact ⟨Bool.true_or _, _, rfl⟩
  ·right
   rw [ge_dec (by omega), cond_false, List.drop_eq_nil_of_le (by omega)]
   exact ⟨rfl, rfl⟩
theorem ps_r (prop : Int) (q : List TVal) (hl : q.length ≤ 10) : ∀ (kk i : Nat), q.length - i < kk → i ≤ q.length →
  (oks prop (q.drop i) = true ∧ ∃ x, r26_Parse_L1 FU prop q kk (i : Int) = some (.inl (x, 0))) ∨ (oks prop (q.drop i) = false ∧ r26_Parse_L1 FU prop q kk (i : Int) = some (.inr ())) := by
 intro kk
 induction kk with
 | zero => intro i h; omega
 | succ kk ih =>
  intro i h hi
  rw [r26_Parse_L1]
  by_cases h1 : i < q.length
  ·rw [lt_dec h1, cond_true, chk_ix h1, (has_o prop _).2, Option.bind_some, List.drop_eq_getElem_cons h1, gi_nat q i h1]
   unfold oks
   rw [List.any_cons]
   cases hh : (hasO prop q[i]).1
   ·rw [Bool.false_or, cond_false, w64_ix (by omega)]
    exact ih (i + 1) (by omega) (by omega)
   ·left
    exact ⟨Bool.true_or _, _, rfl⟩
  ·right
   rw [ge_dec (by omega), cond_false, List.drop_eq_nil_of_le (by omega)]
   exact ⟨rfl, rfl⟩
theorem z_txt (v : TValue) : v.Token.Text.length + v.Token.Unit.length + zVs v.List_ + 8 ≤ zV v := by
 obtain ⟨t, l⟩ := v
 simp only [zV, zT, TValue.Token, TValue.List_]
 omega
theorem color_both (v : TValue) (hv : zV v ≤ 1048576) : ∃ c c' b, parseval_color FU v = some (c, b) ∧ r26_color FU v = some (c', b) := by
 have hz := z_txt v
 have hl := z_len v.List_
 unfold parseval_color r26_color
 cases (v.Token.Kind == 1)
 ·rw [cond_false, cond_false]
  cases (v.Token.Kind == 4)
  ·rw [cond_false, cond_false]
   cases (v.Token.Kind == 2)
   ·exact ⟨_, _, _, rfl, rfl⟩
   ·obtain ⟨y, h1, h2⟩ := small_some v.Token.Text (by omega)
    rw [cond_true, cond_true, h1, h2, Option.bind_some, Option.bind_some, lt_eq, lt_eq]
    cases (cond (y == [114, 103, 98]) true (y == [114, 103, 98, 97]))
    ·exact ⟨_, _, _, rfl, rfl⟩
    ·obtain ⟨c, e1⟩ := rgb_p v.List_ (by omega)
     obtain ⟨c', e2⟩ := rgb_r v.List_ (by omega)
     rw [cond_true, cond_true, e1, e2]
     exact ⟨c, c', _, rfl, rfl⟩
  ·obtain ⟨c, e1⟩ := hash_p v.Token.Text (by omega)
   obtain ⟨c', e2⟩ := hash_r v.Token.Text (by omega)
   rw [cond_true, cond_true, e1, e2]
   exact ⟨c, c', _, rfl, rfl⟩
 ·obtain ⟨c, e1, e2⟩ := named_both v.Token.Text (by omega)
  rw [cond_true, cond_true, e1, e2]
  exact ⟨_, _, _, rfl, rfl⟩
def hd (c : TColor) (b : Bool) : List TVal := cond b [⟨7, [], 0, c⟩] []
theorem hd_len (c : TColor) (b : Bool) : (hd c b).length ≤ 1 := by cases b <;> exact Nat.le_of_ble_eq_true rfl
theorem chk_app {β : Type} (a b : List TVal) (k : Option β) (ha : a.length ≤ 10) (hb : b.length ≤ 10) : chk (ln a + ln b ≤ 1099511627776) k = k := chk_pos (by unfold ln; omega)
def UN : List Str := [[112, 120], [101, 109], [114, 101, 109]]
theorem unit_r (m : Nat) (v : TValue) (y : Str) (hy : r26_Small m v.Token.Unit = some y) (z : List TVal) (hz : z.length ≤ 5) (hm : 4 < m) :
  r26_maybe_L1 m v m z 0 = some (z ++ cond (decide (0 < gi ([2, 3, 4, 0] : List Int) (x_key UN y))) [TVal.mk (gi ([2, 3, 4, 0] : List Int) (x_key UN y)) [] v.Token.Num (TColor.mk 0 0 0 0)] []) := by
 obtain ⟨k, rfl⟩ : ∃ k, m = k + 1 + 1 + 1 + 1 := ⟨m - 4, by omega⟩
 have st : ∀ (q : List TVal) (kk i : Nat) (u : Str) (hi : i < 3) (hu : gi UN (i : Int) = u) (hq : q.length ≤ 8), r26_maybe_L1 (k + 1 + 1 + 1 + 1) v (kk + 1) q (i : Int) = r26_maybe_L1 (k + 1 + 1 + 1 + 1) v kk (q ++ cond (y == u) [TVal.mk ((2 + i : Nat) : Int) [] v.Token.Num (TColor.mk 0 0 0 0)] []) ((i + 1 : Nat) : Int) := by
  intro q kk i u hi hu hq
  have hw : wu8 (2 + wu8 (i : Int)) = ((2 + i : Nat) : Int) := by rw [wu8_id (x := (i : Int)) (by omega) (by omega), wu8_id (by omega) (by omega)]; omega
  rw [r26_maybe_L1, decide_eq_true (show (i : Int) < 3 by omega), cond_true, hy, Option.bind_some, chk_ix (l := ([[112, 120], [101, 109], [114, 101, 109]] : List Str)) hi, lt_eq, show gi ([[112, 120], [101, 109], [114, 101, 109]] : List Str) (i : Int) = u from hu, hw, w64_ix (by omega)]
  cases (y == u)
  ·rw [cond_false, cond_false, List.append_nil]; rfl
  ·rw [cond_true, cond_true, chk_app _ _ _ (by omega) (by simp), lt_eq]; rfl
 have len1 : ∀ (u : Str) (n : Int), (cond (y == u) [TVal.mk n [] v.Token.Num (TColor.mk 0 0 0 0)] []).length ≤ 1 := fun u n => by cases (y == u) <;> simp
 have e := st z (k + 1 + 1 + 1) 0 [112, 120] (by decide) rfl (by omega)
 have e1 := st (z ++ cond (y == [112, 120]) [TVal.mk ((2 + 0 : Nat) : Int) [] v.Token.Num (TColor.mk 0 0 0 0)] []) (k + 1 + 1) 1 [101, 109] (by decide) rfl (by have := len1 [112, 120] ((2 + 0 : Nat) : Int); rw [List.length_append]; omega)
 have e2 := st (z ++ cond (y == [112, 120]) [TVal.mk ((2 + 0 : Nat) : Int) [] v.Token.Num (TColor.mk 0 0 0 0)] [] ++ cond (y == [101, 109]) [TVal.mk ((2 + 1 : Nat) : Int) [] v.Token.Num (TColor.mk 0 0 0 0)] []) (k + 1) 2 [114, 101, 109] (by decide) rfl (by have := len1 [112, 120] ((2 + 0 : Nat) : Int); have := len1 [101, 109] ((2 + 1 : Nat) : Int); rw [List.length_append, List.length_append]; omega)
 rw [show (0 : Int) = ((0 : Nat) : Int) from rfl, e, show ((0 + 1 : Nat) : Int) = ((1 : Nat) : Int) from rfl, e1, show ((1 + 1 : Nat) : Int) = ((2 : Nat) : Int) from rfl, e2, r26_maybe_L1, decide_eq_false (by omega), cond_false]
 have hx : x_key UN y = cond (y == [112, 120]) 0 (cond (y == [101, 109]) 1 (cond (y == [114, 101, 109]) 2 3)) := by
  unfold x_key UN
  simp only [kx]
  cases (y == [112, 120]) <;> cases (y == [101, 109]) <;> cases (y == [114, 101, 109]) <;> rfl
 rw [hx]
 by_cases p1 : y = [112, 120]
 ·subst p1
  simp
  rfl
 ·by_cases p2 : y = [101, 109]
  ·subst p2
   simp
   rfl
  ·by_cases p3 : y = [114, 101, 109]
   ·subst p3
    simp
    rfl
   ·rw [show (y == [112, 120]) = false from beq_eq_false_iff_ne.2 p1, show (y == [101, 109]) = false from beq_eq_false_iff_ne.2 p2, show (y == [114, 101, 109]) = false from beq_eq_false_iff_ne.2 p3]
    simp
    rfl
end Go.Proofs.YtpgflfjmjppmeaaGreatDoor

/-
 ShortParts: the model comes to 'true' for any names and any component values. No program in sight.
-/
import Derived.Test.YtpgflfjmjppmeaaGreatDoorT8
set_option linter.unusedVariables false
set_option maxRecDepth 100000
namespace Go.Proofs.YtpgflfjmjppmeaaGreatDoor
open Go Go.V Go.RowKit
abbrev LV := List (List TValue)
def fl4 : LV → LV
 | [a] => [a, a, a, a]
 | [a, b] => [a, b, a, b]
 | [a, b, c] => [a, b, c, b]
 | v => v
def pt (l : List TValue) : LV := cond (decide (l.length = 0)) [] (cond (cond (isS l 0) true (isS l (l.length - 1))) [] (match gl l l.length 0 [] with
 | none => []
 | some v => cond (decide (4 < v.length)) [] (fl4 v)))
theorem gl_len (l : List TValue) : ∀ (k i : Nat) (v q : LV), gl l k i v = some q → v.length ≤ q.length
 | 0, i, v, q, h => by cases h; exact Nat.le_refl _
 | k + 1, i, v, q, h => by
  rw [gl] at h
  cases hs : isS l i
  ·rw [hs, cond_false] at h
   cases hq : (cond (decide (0 < i)) (!(isS l (i - 1))) false)
   ·rw [hq, cond_false] at h
    have := gl_len l k (i + 1) _ q h
    simp only [List.length_append, List.length_cons, List.length_nil] at this
    omega
   ·rw [hq] at h; cases h
  ·rw [hs, cond_true] at h
   exact gl_len l k (i + 1) v q h
theorem gl_pos (l : List TValue) (hf : isS l 0 = false) (hl : 0 < l.length) (q : LV) (h : gl l l.length 0 [] = some q) : 0 < q.length := by
 obtain ⟨k, hk⟩ : ∃ k, l.length = k + 1 := ⟨l.length - 1, by omega⟩
 rw [hk, gl, hf, cond_false, decide_eq_false (by omega), cond_false, cond_false] at h
 have := gl_len l k 1 _ q h
 simp only [List.nil_append, List.length_cons, List.length_nil] at this
 omega
theorem chk_lv {β : Type} (a b : LV) (k : Option β) (ha : a.length ≤ 10) (hb : b.length ≤ 10) : chk (ln a + ln b ≤ 1099511627776) k = k := chk_pos (by unfold ln; omega)
def fp (v : LV) : Option LV := Option.bind (chk (0 ≤ (w64 ((ln v) - 1)) ∧ (w64 ((ln v) - 1)) ≤ (ln ([0, 0, 1] : List Int)) ∧ (ln ([0, 0, 1] : List Int)) ≤ ln ([0, 0, 1] : List Int)) <|
 lt (subl ([0, 0, 1] : List Int) (w64 ((ln v) - 1)) (ln ([0, 0, 1] : List Int))) fun q85 =>
 short_sides_L2 FU q85 FU v 0) fun (z77 : LV) => some z77
theorem fp1 (a : List TValue) : fp [a] = some [a, a, a, a] := by kernel_rfl
theorem fp2 (a b : List TValue) : fp [a, b] = some [a, b, a, b] := by kernel_rfl
theorem fp3 (a b c : List TValue) : fp [a, b, c] = some [a, b, c, b] := by kernel_rfl
theorem fp4 (a b c d : List TValue) : fp [a, b, c, d] = some [a, b, c, d] := by kernel_rfl
def fq (v : LV) : Option LV := Option.bind (
 cond (decide ((ln v) < 2)) (
 chk (0 ≤ (0 : Int) ∧ (0 : Int) < ln v) <|
 chk (ln v + ln ([(gi v (0 : Int))] : LV) ≤ 1099511627776) <|
 lt (v ++ ([(gi v (0 : Int))] : LV)) fun q79 =>
 some q79) (
 some v)) fun (z67 : LV) =>
 Option.bind (
 cond (decide ((ln z67) < 3)) (
 chk (0 ≤ (0 : Int) ∧ (0 : Int) < ln z67) <|
 chk (ln z67 + ln ([(gi z67 (0 : Int))] : LV) ≤ 1099511627776) <|
 lt (z67 ++ ([(gi z67 (0 : Int))] : LV)) fun q99 =>
 some q99) (
 some z67)) fun (z87 : LV) =>
 Option.bind (
 cond (decide ((ln z87) < 4)) (
 chk (0 ≤ (1 : Int) ∧ (1 : Int) < ln z87) <|
 chk (ln z87 + ln ([(gi z87 (1 : Int))] : LV) ≤ 1099511627776) <|
 lt (z87 ++ ([(gi z87 (1 : Int))] : LV)) fun q119 =>
 some q119) (
 some z87)) fun (z107 : LV) =>
 some z107
theorem fq1 (a : List TValue) : fq [a] = some [a, a, a, a] := by kernel_rfl
theorem fq2 (a b : List TValue) : fq [a, b] = some [a, b, a, b] := by kernel_rfl
theorem fq3 (a b c : List TValue) : fq [a, b, c] = some [a, b, c, b] := by kernel_rfl
theorem fq4 (a b c d : List TValue) : fq [a, b, c, d] = some [a, b, c, d] := by kernel_rfl
theorem fill (v : LV) (hp : 0 < v.length) (h4 : ¬ 4 < v.length) : fp v = some (fl4 v) ∧ fq v = some (fl4 v) := by
 match v, hp, h4 with
 | [a], _, _ => exact ⟨fp1 a, fq1 a⟩
 | [a, b], _, _ => exact ⟨fp2 a b, fq2 a b⟩
 | [a, b, c], _, _ => exact ⟨fp3 a b c, fq3 a b c⟩
 | [a, b, c, d], _, _ => exact ⟨fp4 a b c d, fq4 a b c d⟩
 | a :: b :: c :: d :: e :: r, _, h => exact absurd h (by simp only [List.length_cons]; omega)
theorem sides_p (l : List TValue) (hl : l.length ≤ 1048576) : short_sides FU l = some (pt l) := by
 unfold short_sides pt
 by_cases h0 : l.length = 0
 ·have : l = [] := List.eq_nil_of_length_eq_zero h0
  subst this
  rfl
 ·have n0 : ((ln l) == 0) = false := beq_eq_false_iff_ne.2 (by unfold ln; omega)
  have wl : w64 ((ln l) - 1) = ((l.length - 1 : Nat) : Int) := by unfold ln; rw [w64_id (by omega) (by omega)]; omega
  rw [n0, decide_eq_false h0, cond_false, cond_false, chk_pos (fun _ => ⟨by decide, by unfold ln; omega⟩), lt_eq, wl, chk_pos (fun _ => ⟨by omega, by unfold ln; omega⟩), lt_eq]
  show cond (cond (isS l 0) true (isS l (l.length - 1))) _ _ = _
  cases hb : (cond (isS l 0) true (isS l (l.length - 1)))
  ·rw [cond_false, cond_false, show short_sides_L1 FU l FU [] 0 = _ from gl_p l hl FU 0 l.length [] (by omega) (by unfold FU; omega) (Nat.zero_le _)]
   have hf : isS l 0 = false := by
    cases h : isS l 0
    ·rfl
    ·rw [h] at hb; cases hb
   cases hg : gl l l.length 0 [] with
   | none => rfl
   | some v =>
    have hp := gl_pos l hf (by omega) v hg
    rw [Option.bind_some]
    dsimp only [sumK]
    by_cases h4 : 4 < v.length
    ·rw [decide_eq_true (show 4 < ln v by unfold ln; omega), decide_eq_true h4]; rfl
    ·rw [decide_eq_false (show ¬ 4 < ln v by unfold ln; omega), decide_eq_false h4, cond_false, cond_false]
     exact (fill v hp h4).1
  ·rfl
theorem sides_r (l : List TValue) (hl : l.length ≤ 1048576) : r27_parts FU l = some (pt l) := by
 unfold r27_parts pt
 by_cases h0 : l.length = 0
 ·have : l = [] := List.eq_nil_of_length_eq_zero h0
  subst this
  rfl
 ·rw [decide_eq_false h0, cond_false]
  cases hf : isS l 0
  ·have hr := gl_r l hl (by omega) hf FU 0 l.length [] true (by omega) (by unfold FU; omega) (Nat.zero_le _) rfl
   rw [show r27_parts_L1 FU l FU [] true 0 = _ from hr, cond_false]
   cases hg : gl l l.length 0 [] with
   | none =>
    cases isS l (l.length - 1) <;> rfl
   | some v =>
    have hp := gl_pos l hf (by omega) v hg
    rw [Option.bind_some]
    dsimp only [sumK]
    rw [lt_eq]
    cases isS l (l.length - 1)
    ·rw [cond_false, cond_false]
     by_cases h4 : 4 < v.length
     ·rw [decide_eq_true (show 4 < ln v by unfold ln; omega), decide_eq_true h4]; rfl
     ·rw [decide_eq_false (show ¬ 4 < ln v by unfold ln; omega), decide_eq_false h4, cond_false, cond_false]
      exact (fill v hp h4).2
    ·rfl
  ·have e : r27_parts_L1 FU l (1099999 + 1) [] true ((0 : Nat) : Int) = some (.inl []) := by
    rw [r27_parts_L1, lt_dec (by omega), cond_true, chk_ix (by omega), lt_eq, lt_eq]
    have hk : ((gi l ((0 : Nat) : Int)).Token.Kind == 13) = true := hf
    rw [hk]
    rfl
   rw [show r27_parts_L1 FU l FU [] true 0 = _ from e]
   rfl
def alr (y : List Str) (z : LV) (i : Nat) : Nat → Bool
 | 0 => true
 | k + 1 => rgt (gi y (i : Int)) (gi z (i : Int)) && alr y z (i + 1) k
theorem parts_p_L1 (y : List Str) (z : LV) (hyz : z.length = y.length) (hy : y.length ≤ 10) (hz : ∀ x ∈ z, zVs x ≤ 1048576) : ∀ (kk i k : Nat), i + k = y.length → k < kk →
  short_parts_L1 FU z y kk (i : Int) = cond (alr y z i k) (some (.inr ())) (some (.inl [])) := by
 intro kk
 induction kk with
 | zero => intro i k _ h; omega
 | succ kk ih =>
  intro i k hik hk
  rw [short_parts_L1]
  cases k with
  | zero => rw [ge_dec (by omega), cond_false]; rfl
  | succ k =>
   have h1 : i < y.length := by omega
   have h2 : i < z.length := by omega
   rw [lt_dec h1, cond_true, chk_ix h1, chk_ix h2, (right_both _ _ (hz _ (gi_mem' h2))).1, Option.bind_some, alr]
   cases rgt (gi y (i : Int)) (gi z (i : Int))
   ·rfl
   ·rw [Bool.not_true, cond_false, w64_ix (by omega), Bool.true_and]
    exact ih (i + 1) k (by omega) (by omega)
theorem parts_r_L1 (y : List Str) (z : LV) (hyz : z.length = y.length) (hy : y.length ≤ 10) (hz : ∀ x ∈ z, zVs x ≤ 1048576) : ∀ (kk i k : Nat), i + k = y.length → k < kk →
  r27_Parted_L1 FU z y kk (i : Int) = cond (alr y z i k) (some (.inr ())) (some (.inl [])) := by
 intro kk
 induction kk with
 | zero => intro i k _ h; omega
 | succ kk ih =>
  intro i k hik hk
  rw [r27_Parted_L1]
  cases k with
  | zero => rw [ge_dec (by omega), cond_false]; rfl
  | succ k =>
   have h1 : i < y.length := by omega
   have h2 : i < z.length := by omega
   rw [lt_dec h2, cond_true, chk_ix h1, chk_ix h2, (right_both _ _ (hz _ (gi_mem' h2))).2, Option.bind_some, alr]
   cases rgt (gi y (i : Int)) (gi z (i : Int))
   ·rfl
   ·rw [Bool.not_true, cond_false, w64_ix (by omega), Bool.true_and]
    exact ih (i + 1) k (by omega) (by omega)
theorem gl_mem (l : List TValue) (hlb : zVs l ≤ 1048576) : ∀ (k i : Nat) (v q : LV), i + k = l.length → (∀ x ∈ v, zVs x ≤ 1048576) → gl l k i v = some q → ∀ x ∈ q, zVs x ≤ 1048576
 | 0, i, v, q, _, hv, h => by cases h; exact hv
 | k + 1, i, v, q, hik, hv, h => by
  rw [gl] at h
  cases hs : isS l i
  ·rw [hs, cond_false] at h
   cases hq : (cond (decide (0 < i)) (!(isS l (i - 1))) false)
   ·rw [hq, cond_false] at h
    refine gl_mem l hlb k (i + 1) _ q (by omega) (fun x hx => ?_) h
    rcases List.mem_append.1 hx with h' | h'
    ·exact hv x h'
    ·rw [List.mem_singleton.1 h']
     have hm := z_mem (gi_mem' (show i < l.length by omega))
     simp only [zVs]
     omega
   ·rw [hq] at h; cases h
  ·rw [hs, cond_true] at h
   exact gl_mem l hlb k (i + 1) v q (by omega) hv h
theorem fl4_mem {P : List TValue → Prop} (v : LV) (h : ∀ x ∈ v, P x) : ∀ x ∈ fl4 v, P x := by
 match v, h with
 | [], h => exact h
 | [a], h => intro x hx; have := h a (by simp); simp [fl4] at hx; rw [hx]; exact this
 | [a, b], h => intro x hx; have h1 := h a (by simp); have h2 := h b (by simp); simp [fl4] at hx; rcases hx with hx | hx | hx | hx <;> rw [hx] <;> assumption
 | [a, b, c], h => intro x hx; have h1 := h a (by simp); have h2 := h b (by simp); have h3 := h c (by simp); simp [fl4] at hx; rcases hx with hx | hx | hx | hx <;> rw [hx] <;> assumption
 | a :: b :: c :: d :: r, h => exact h
theorem pt_mem (l : List TValue) (hlb : zVs l ≤ 1048576) : ∀ x ∈ pt l, zVs x ≤ 1048576 := by
 unfold pt
 cases decide (l.length = 0)
 ·cases (cond (isS l 0) true (isS l (l.length - 1)))
  ·rw [cond_false, cond_false]
   cases hg : gl l l.length 0 [] with
   | none => intro x hx; cases hx
   | some v =>
    have := gl_mem l hlb l.length 0 [] v (by omega) (fun x hx => by cases hx) hg
    show ∀ x ∈ cond (decide (4 < v.length)) [] (fl4 v), zVs x ≤ 1048576
    cases decide (4 < v.length)
    ·exact fl4_mem v this
    ·intro x hx; cases hx
  ·intro x hx; cases hx
 ·intro x hx; cases hx
def prt (w : Str) (l : List TValue) : LV := cond ((ln (cond (w == mrg) (pt l) [l])) != (ln (los w))) [] (cond (alr (los w) (cond (w == mrg) (pt l) [l]) 0 (los w).length) (cond (w == mrg) (pt l) [l]) [])
theorem los_len (w : Str) : (los w).length ≤ 4 := by
 unfold los
 cases (w == mrg) <;> cases isShort w <;> exact Nat.le_of_ble_eq_true rfl
theorem parts_both (w : Str) (l : List TValue) (hw : w.length ≤ 1048576) (hlb : zVs l ≤ 1048576) : short_parts FU w l = some (prt w l) ∧ r27_Parted FU w l = some (prt w l) := by
 have hl := z_len l
 have hll := los_len w
 have e1 : (cond (w == [109, 97, 114, 103, 105, 110]) (Option.bind (short_sides FU l) fun y16 => some y16) (some ([l] : LV)) : Option LV) = some (cond (w == mrg) (pt l) [l]) := by
  rw [sides_p l (by omega)]
  show cond (w == mrg) _ _ = _
  cases (w == mrg) <;> rfl
 have e2 : (cond (w == [109, 97, 114, 103, 105, 110]) (Option.bind (r27_parts FU l) fun y16 => some y16) (some ([l] : LV)) : Option LV) = some (cond (w == mrg) (pt l) [l]) := by
  rw [sides_r l (by omega)]
  show cond (w == mrg) _ _ = _
  cases (w == mrg) <;> rfl
 have hm : ∀ x ∈ cond (w == mrg) (pt l) [l], zVs x ≤ 1048576 := by
  cases (w == mrg)
  ·intro x hx; rw [List.mem_singleton.1 hx]; exact hlb
  ·exact pt_mem l hlb
 unfold short_parts r27_Parted prt
 rw [e1, e2, Option.bind_some, Option.bind_some, of_p w hw, of_r w hw, Option.bind_some, Option.bind_some]
 generalize cond (w == mrg) (pt l) [l] = z at *
 cases hn : ((ln z) != (ln (los w)))
 ·have hlen : z.length = (los w).length := by
   have := bne_eq_false_iff_eq.1 hn
   unfold ln at this
   omega
  rw [cond_false, cond_false, cond_false, show short_parts_L1 FU z (los w) FU 0 = _ from parts_p_L1 (los w) z hlen (by omega) hm FU 0 (los w).length (by omega) (by unfold FU; omega), show r27_Parted_L1 FU z (los w) FU 0 = _ from parts_r_L1 (los w) z hlen (by omega) hm FU 0 (los w).length (by omega) (by unfold FU; omega)]
  cases alr (los w) z 0 (los w).length <;> exact ⟨rfl, rfl⟩
 ·exact ⟨rfl, rfl⟩
theorem eta (x : TValue) : TValue.mk x.Token x.List_ = x := by cases x; rfl
theorem twin_L1 (m : Nat) (v : List TValue) (rec : List TValue → Option (List TValue)) (hl : v.length ≤ 1048576) (hr : ∀ x ∈ v, rec x.List_ = some x.List_) :
  ∀ (kk i : Nat) (a : List TValue), v.length - i < kk → i ≤ v.length → a.length ≤ i → r26_Twin_L1 m v rec kk a (i : Int) = some (a ++ v.drop i) := by
 intro kk
 induction kk with
 | zero => intro i a h; omega
 | succ kk ih =>
  intro i a h hi ha
  rw [r26_Twin_L1]
  by_cases h1 : i < v.length
  ·rw [lt_dec h1, cond_true, chk_ix h1, hr _ (gi_mem' h1), Option.bind_some, chk_pos (by unfold ln; simp only [List.length_cons, List.length_nil]; omega), lt_eq, w64_ix (by omega), ih (i + 1) _ (by omega) (by omega) (by simp only [List.length_append, List.length_cons, List.length_nil]; omega), List.drop_eq_getElem_cons h1, gi_nat v i h1, eta]
   simp only [List.append_assoc]
   rfl
  ·rw [ge_dec (by omega), cond_false, List.drop_eq_nil_of_le (by omega), List.append_nil]
theorem twin_r (m : Nat) (hm : 1048577 < m) : ∀ (k : Nat) (v : List TValue), zVs v < k → zVs v ≤ 1048576 → r26_Twin_r m k v = some v := by
 intro k
 induction k with
 | zero => intro v h; omega
 | succ k ih =>
  intro v h hb
  have hl := z_len v
  have hn := twin_L1 m v (r26_Twin_r m k) (by omega) (fun x hx => by
   have h1 := z_mem hx; have h2 := z_kid x
   exact ih _ (by omega) (by omega)) m 0 [] (by omega) (by omega) (by simp)
  rw [r26_Twin_r]
  rw [show (0 : Int) = ((0 : Nat) : Int) from rfl, hn, Option.bind_some, List.drop_zero, List.nil_append]
theorem twin_x (v : List TValue) (h : zVs v ≤ 1048576) : r26_Twin FU v = some v := twin_r FU (by decide) FU v (by unfold FU; omega) h
theorem great_ex (v : List TValue) (h : zVs v ≤ 1048576) : ∃ b, r04_Great FU v = some b := by
 obtain ⟨q, hq⟩ := size_r FU (by decide) FU v 300 (by unfold FU; omega) h
 have hd := deep_r FU (by decide) FU v (by unfold FU; omega) h
 unfold r04_Great r04_Size r04_Deep
 rw [hq, Option.bind_some, hd]
 cases decide (300 < q) <;> exact ⟨_, rfl⟩
theorem prt_len (w : Str) (l : List TValue) : ((ln (prt w l)) == 0) = true ∨ (prt w l).length = (los w).length := by
 unfold prt
 cases hn : ((ln (cond (w == mrg) (pt l) [l])) != (ln (los w)))
 ·rw [cond_false]
  cases alr (los w) (cond (w == mrg) (pt l) [l]) 0 (los w).length
  ·exact Or.inl rfl
  ·right
   have := bne_eq_false_iff_eq.1 hn
   unfold ln at this
   rw [cond_true]
   omega
 ·exact Or.inl rfl
theorem prt_mem (w : Str) (l : List TValue) (hlb : zVs l ≤ 1048576) : ∀ x ∈ prt w l, zVs x ≤ 1048576 := by
 have hm : ∀ x ∈ cond (w == mrg) (pt l) [l], zVs x ≤ 1048576 := by
  cases (w == mrg)
  ·intro x hx; rw [List.mem_singleton.1 hx]; exact hlb
  ·exact pt_mem l hlb
 unfold prt
 cases ((ln (cond (w == mrg) (pt l) [l])) != (ln (los w)))
 ·rw [cond_false]
  cases alr (los w) (cond (w == mrg) (pt l) [l]) 0 (los w).length
  ·intro x hx; cases hx
  ·exact hm
 ·intro x hx; cases hx
theorem part_both (w long : Str) (l : List TValue) (hw : w.length ≤ 1048576) (hlb : zVs l ≤ 1048576) : ∃ x e, short_Part FU w long l = some (x, e) ∧ r27_Part FU w long l = some (x, e) ∧ zVs x ≤ 1048576 := by
 have nil0 : zVs [] ≤ 1048576 := by rw [zVs]; decide
 unfold short_Part r27_Part
 rw [nest_ok FU fu_lt l hlb, ref_ok FU fu_lt l hlb, Option.bind_some, Option.bind_some]
 cases (chV l != 0)
 ·obtain ⟨i, h1, h2, h3⟩ := ix_both w long
  rw [cond_false, cond_false, of_p w hw, of_r w hw, Option.bind_some, Option.bind_some, h1, h2, Option.bind_some, Option.bind_some]
  rcases h3 with h | ⟨h4, h5⟩
  ·subst h
   exact ⟨[], 6, rfl, rfl, nil0⟩
  ·obtain ⟨p1, p2⟩ := parts_both w l hw hlb
   rw [decide_eq_false (by omega), cond_false, cond_false, p1, p2, Option.bind_some, Option.bind_some]
   rcases prt_len w l with hz | hz
   ·rw [hz]
    exact ⟨[], 12, rfl, rfl, nil0⟩
   ·have hi : i.toNat < (prt w l).length := by unfold ln at h5; omega
    have hg : gi (prt w l) i ∈ prt w l := by
     have := gi_mem' hi
     rwa [show ((i.toNat : Nat) : Int) = i from by omega] at this
    have hb := prt_mem w l hlb _ hg
    have n0 : ((ln (prt w l)) == 0) = false := beq_eq_false_iff_ne.2 (by unfold ln; omega)
    rw [n0, cond_false, cond_false, chk_pos ⟨h4, by unfold ln; omega⟩, chk_pos ⟨h4, by unfold ln; omega⟩, show short_clone FU (gi (prt w l) i) = some (gi (prt w l) i) from clone_r FU fu_lt FU _ (by unfold FU; omega) hb, show r26_Twin FU (gi (prt w l) i) = some (gi (prt w l) i) from twin_r FU fu_lt FU _ (by unfold FU; omega) hb]
    exact ⟨_, 0, rfl, rfl, hb⟩
 ·exact ⟨[], _, rfl, rfl, nil0⟩
theorem texts_same (y : List Str) (hy : y.length ≤ 10) : r27_SameTexts FU y y = some true := by
 have st : ∀ (kk i : Nat), y.length - i < kk → i ≤ y.length → r27_SameTexts_L1 FU y y kk (i : Int) = some (.inr ()) := by
  intro kk
  induction kk with
  | zero => intro i h; omega
  | succ kk ih =>
   intro i hk hi
   rw [r27_SameTexts_L1]
   by_cases h1 : i < y.length
   ·rw [lt_dec h1, cond_true, chk_ix h1, chk_ix h1, beq_self_eq_true, Bool.not_true, cond_false, w64_ix (by omega)]
    exact ih (i + 1) (by omega) (by omega)
   ·rw [ge_dec (by omega), cond_false]
 unfold r27_SameTexts
 rw [bne_self_eq_false, cond_false, show r27_SameTexts_L1 FU y y FU 0 = _ from st FU 0 (by unfold FU; omega) (Nat.zero_le _)]
 rfl
theorem plain_ShortParts (whole long : Str) (l : List TValue) {p q r : Prop} (_ : p) (_ : q) (_ : r) (hb : (whole.length + 1) + (long.length + 1) + bkL zV l + 0 ≤ 1048576) : law27_ShortParts FU whole long l = some true := by
 have hz : zVs l ≤ 1048576 := by
  have : bkL zV l = zVs l + 1 := by rw [z_map]; rfl
  omega
 unfold law27_ShortParts
 obtain ⟨g, hg⟩ := great_ex l hz
 rw [hg, Option.bind_some, lt_eq]
 cases (cond (cond g true (decide (200 < (ln whole)))) true (decide (200 < (ln long))))
 ·obtain ⟨x, e, h1, h2, h3⟩ := part_both whole long l (by omega) hz
  rw [cond_false, longs_p whole (by omega), longs_r whole (by omega), Option.bind_some, Option.bind_some, h1, h2, Option.bind_some, Option.bind_some, texts_same _ (Nat.le_trans (lgs_len whole) (by decide)), Option.bind_some]
  dsimp only
  rw [beq_self_eq_true, beq_self_eq_true, cond_true, cond_true, show r04_Same FU x x = some true from same_r FU fu_lt FU x (by unfold FU; omega) h3, Option.bind_some, lt_eq]
  rfl
 ·rfl
end Go.Proofs.YtpgflfjmjppmeaaGreatDoor

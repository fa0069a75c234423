/-
 The code's side alone: the longhands and the parts of a shorthand. No program in sight.
-/
import Derived.Test.YtpgflfjmjppmeaaGreatDoorS5
set_option linter.unusedVariables false
set_option maxRecDepth 100000
namespace Go.Proofs.YtpgflfjmjppmeaaGreatDoor
open Go Go.V Go.RowKit
theorem z_txt (v : TValue) : v.Token.Text.length + v.Token.Unit.length + zVs v.List_ + 8 ≤ zV v := by
 obtain ⟨t, l⟩ := v
 simp only [zV, zT, TValue.Token, TValue.List_]
 omega
def los (w : Str) : List Str := cond (w == mrg) sides (cond (isShort w) [w ++ [45, 99, 111, 108, 111, 114]] [])
theorem of_p (w : Str) (hw : w.length ≤ 1048576) : short_of 64 w = some (los w) := by
 unfold short_of los
 rw [lt_eq, cont_s short_Names w (by decide), Option.bind_some]
 rw [show (scanO (fun i => w == gi short_Names i) short_Names.length 0).isSome = cond (w == mrg) true (isShort w) from scan4 _ _ _ _ w]
 cases hm : (w == mrg)
 ·rw [cond_false, cond_false, lt_eq]
  cases hs : isShort w
  ·rfl
  ·rw [Bool.not_true, cond_false, show (!(w == ([109, 97, 114, 103, 105, 110] : Str))) = true from by rw [show (w == ([109, 97, 114, 103, 105, 110] : Str)) = false from hm]; rfl, cond_true, chk_pos (by unfold ln; simp only [List.length_cons, List.length_nil]; omega)]
   rfl
 ·have e : w = mrg := eq_of_beq hm
  subst e
  rw [show short_of_L1 64 mrg 64 [] 0 = some sides from by kernel_rfl]
  rfl
def isS (l : List TValue) (i : Nat) : Bool := (gi l (i : Int)).Token.Kind == 13
def gl (l : List TValue) : Nat → Nat → List (List TValue) → Option (List (List TValue))
 | 0, _, v => some v
 | k + 1, i, v => cond (isS l i) (gl l k (i + 1) v) (cond (cond (decide (0 < i)) (!(isS l (i - 1))) false) none (gl l k (i + 1) (v ++ [[gi l (i : Int)]])))
theorem sub1 {l : List TValue} {i : Nat} (h : i < l.length) : subl l (i : Int) ((i + 1 : Nat) : Int) = [gi l (i : Int)] := by
 rw [gi_nat l i h]
 unfold subl
 simp only [Int.toNat_natCast]
 rw [List.drop_eq_getElem_cons h, show i + 1 - i = 1 from by omega]
 rfl
theorem gl_p (l : List TValue) (hl : l.length ≤ 1048576) : ∀ (kk i k : Nat) (v : List (List TValue)), i + k = l.length → k < kk → v.length ≤ i →
  short_sides_L1 FU l kk v (i : Int) = match gl l k i v with
   | none => some (.inl [])
   | some q => some (.inr q) := by
 intro kk
 induction kk with
 | zero => intro i k v _ h; omega
 | succ kk ih =>
  intro i k v hik hk hv
  rw [short_sides_L1]
  cases k with
  | zero => rw [ge_dec (by omega), cond_false]; rfl
  | succ k =>
   have h1 : i < l.length := by omega
   rw [lt_dec h1, cond_true, chk_ix h1, gl]
   show Option.bind (cond (isS l i) _ _) _ = _
   cases hs : isS l i
   ·rw [cond_false, cond_false]
    have hprev : (cond (decide (0 < (i : Int))) (((gi l (w64 ((i : Int) - 1))).Token.Kind) != 13) false) = cond (decide (0 < i)) (!(isS l (i - 1))) false := by
     by_cases h0 : 0 < i
     ·rw [decide_eq_true h0, decide_eq_true (show (0 : Int) < (i : Int) by omega), cond_true, cond_true, show w64 ((i : Int) - 1) = ((i - 1 : Nat) : Int) from by rw [w64_id (by omega) (by omega)]; omega]
      rfl
     ·rw [decide_eq_false h0, decide_eq_false (show ¬ (0 : Int) < (i : Int) by omega)]; rfl
    rw [chk_pos (fun h => by
     have h0 : (0 : Int) < (i : Int) := by simpa using h
     rw [show w64 ((i : Int) - 1) = ((i - 1 : Nat) : Int) from by rw [w64_id (by omega) (by omega)]; omega]
     exact ⟨by omega, by unfold ln; omega⟩), lt_eq, hprev]
    cases (cond (decide (0 < i)) (!(isS l (i - 1))) false)
    ·rw [cond_false, cond_false, w64_ix (by omega), chk_pos ⟨by omega, by omega, by unfold ln; omega⟩, lt_eq, sub1 h1, chk_pos (by unfold ln; simp only [List.length_cons, List.length_nil]; omega), lt_eq, Option.bind_some]
     dsimp only [sumK]
     exact ih (i + 1) k _ (by omega) (by omega) (by simp only [List.length_append, List.length_cons, List.length_nil]; omega)
    ·rfl
   ·rw [cond_true, cond_true, Option.bind_some]
    dsimp only [sumK]
    rw [w64_ix (by omega)]
    exact ih (i + 1) k v (by omega) (by omega) (by omega)
abbrev LV := List (List TValue)
def fl4 : LV → LV
 | [a] => [a, a, a, a]
 | [a, b] => [a, b, a, b]
 | [a, b, c] => [a, b, c, b]
 | v => v
def pt (l : List TValue) : LV := cond (decide (l.length = 0)) [] (cond (cond (isS l 0) true (isS l (l.length - 1))) [] (match gl l l.length 0 [] with
 | none => []
 | some v => cond (decide (4 < v.length)) [] (fl4 v)))
theorem gl_len (l : List TValue) : ∀ (k i : Nat) (v q : LV), gl l k i v = some q → v.length ≤ q.length
 | 0, i, v, q, h => by cases h; exact Nat.le_refl _
 | k + 1, i, v, q, h => by
  rw [gl] at h
  cases hs : isS l i
  ·rw [hs, cond_false] at h
   cases hq : (cond (decide (0 < i)) (!(isS l (i - 1))) false)
   ·rw [hq, cond_false] at h
    have := gl_len l k (i + 1) _ q h
    simp only [List.length_append, List.length_cons, List.length_nil] at this
    omega
   ·rw [hq] at h; cases h
  ·rw [hs, cond_true] at h
   exact gl_len l k (i + 1) v q h
theorem gl_pos (l : List TValue) (hf : isS l 0 = false) (hl : 0 < l.length) (q : LV) (h : gl l l.length 0 [] = some q) : 0 < q.length := by
 obtain ⟨k, hk⟩ : ∃ k, l.length = k + 1 := ⟨l.length - 1, by omega⟩
 rw [hk, gl, hf, cond_false, decide_eq_false (by omega), cond_false, cond_false] at h
 have := gl_len l k 1 _ q h
 simp only [List.nil_append, List.length_cons, List.length_nil] at this
 omega
def fp (v : LV) : Option LV := Option.bind (chk (0 ≤ (w64 ((ln v) - 1)) ∧ (w64 ((ln v) - 1)) ≤ (ln ([0, 0, 1] : List Int)) ∧ (ln ([0, 0, 1] : List Int)) ≤ ln ([0, 0, 1] : List Int)) <|
 lt (subl ([0, 0, 1] : List Int) (w64 ((ln v) - 1)) (ln ([0, 0, 1] : List Int))) fun q85 =>
 short_sides_L2 FU q85 FU v 0) fun (z77 : LV) => some z77
theorem fp1 (a : List TValue) : fp [a] = some [a, a, a, a] := by kernel_rfl
theorem fp2 (a b : List TValue) : fp [a, b] = some [a, b, a, b] := by kernel_rfl
theorem fp3 (a b c : List TValue) : fp [a, b, c] = some [a, b, c, b] := by kernel_rfl
theorem fp4 (a b c d : List TValue) : fp [a, b, c, d] = some [a, b, c, d] := by kernel_rfl
theorem fill (v : LV) (hp : 0 < v.length) (h4 : ¬ 4 < v.length) : fp v = some (fl4 v) := by
 match v, hp, h4 with
 | [a], _, _ => exact fp1 a
 | [a, b], _, _ => exact fp2 a b
 | [a, b, c], _, _ => exact fp3 a b c
 | [a, b, c, d], _, _ => exact fp4 a b c d
 | a :: b :: c :: d :: e :: r, _, h => exact absurd h (by simp only [List.length_cons]; omega)
theorem sides_p (l : List TValue) (hl : l.length ≤ 1048576) : short_sides FU l = some (pt l) := by
 unfold short_sides pt
 by_cases h0 : l.length = 0
 ·have : l = [] := List.eq_nil_of_length_eq_zero h0
  subst this
  rfl
 ·have n0 : ((ln l) == 0) = false := beq_eq_false_iff_ne.2 (by unfold ln; omega)
  have wl : w64 ((ln l) - 1) = ((l.length - 1 : Nat) : Int) := by unfold ln; rw [w64_id (by omega) (by omega)]; omega
  rw [n0, decide_eq_false h0, cond_false, cond_false, chk_pos (fun _ => ⟨by decide, by unfold ln; omega⟩), lt_eq, wl, chk_pos (fun _ => ⟨by omega, by unfold ln; omega⟩), lt_eq]
  show cond (cond (isS l 0) true (isS l (l.length - 1))) _ _ = _
  cases hb : (cond (isS l 0) true (isS l (l.length - 1)))
  ·rw [cond_false, cond_false, show short_sides_L1 FU l FU [] 0 = _ from gl_p l hl FU 0 l.length [] (by omega) (by unfold FU; omega) (Nat.zero_le _)]
   have hf : isS l 0 = false := by
    cases h : isS l 0
    ·rfl
    ·rw [h] at hb; cases hb
   cases hg : gl l l.length 0 [] with
   | none => rfl
   | some v =>
    have hp := gl_pos l hf (by omega) v hg
    rw [Option.bind_some]
    dsimp only [sumK]
    by_cases h4 : 4 < v.length
    ·rw [decide_eq_true (show 4 < ln v by unfold ln; omega), decide_eq_true h4]; rfl
    ·rw [decide_eq_false (show ¬ 4 < ln v by unfold ln; omega), decide_eq_false h4, cond_false, cond_false]
     exact fill v hp h4
  ·rfl
def alr (y : List Str) (z : LV) (i : Nat) : Nat → Bool
 | 0 => true
 | k + 1 => rgt (gi y (i : Int)) (gi z (i : Int)) && alr y z (i + 1) k
theorem parts_p_L1 (y : List Str) (z : LV) (hyz : z.length = y.length) (hy : y.length ≤ 10) (hz : ∀ x ∈ z, zVs x ≤ 1048576) : ∀ (kk i k : Nat), i + k = y.length → k < kk →
  short_parts_L1 FU z y kk (i : Int) = cond (alr y z i k) (some (.inr ())) (some (.inl [])) := by
 intro kk
 induction kk with
 | zero => intro i k _ h; omega
 | succ kk ih =>
  intro i k hik hk
  rw [short_parts_L1]
  cases k with
  | zero => rw [ge_dec (by omega), cond_false]; rfl
  | succ k =>
   have h1 : i < y.length := by omega
   have h2 : i < z.length := by omega
   rw [lt_dec h1, cond_true, chk_ix h1, chk_ix h2, right_p _ _ (hz _ (gi_mem' h2)), Option.bind_some, alr]
   cases rgt (gi y (i : Int)) (gi z (i : Int))
   ·rfl
   ·rw [Bool.not_true, cond_false, w64_ix (by omega), Bool.true_and]
    exact ih (i + 1) k (by omega) (by omega)
theorem gl_mem (l : List TValue) (hlb : zVs l ≤ 1048576) : ∀ (k i : Nat) (v q : LV), i + k = l.length → (∀ x ∈ v, zVs x ≤ 1048576) → gl l k i v = some q → ∀ x ∈ q, zVs x ≤ 1048576
 | 0, i, v, q, _, hv, h => by cases h; exact hv
 | k + 1, i, v, q, hik, hv, h => by
  rw [gl] at h
  cases hs : isS l i
  ·rw [hs, cond_false] at h
   cases hq : (cond (decide (0 < i)) (!(isS l (i - 1))) false)
   ·rw [hq, cond_false] at h
    refine gl_mem l hlb k (i + 1) _ q (by omega) (fun x hx => ?_) h
    rcases List.mem_append.1 hx with h' | h'
    ·exact hv x h'
    ·rw [List.mem_singleton.1 h']
     have hm := z_mem (gi_mem' (show i < l.length by omega))
     simp only [zVs]
     omega
   ·rw [hq] at h; cases h
  ·rw [hs, cond_true] at h
   exact gl_mem l hlb k (i + 1) v q (by omega) hv h
theorem fl4_mem {P : List TValue → Prop} (v : LV) (h : ∀ x ∈ v, P x) : ∀ x ∈ fl4 v, P x := by
 match v, h with
 | [], h => exact h
 | [a], h => intro x hx; have := h a (by simp); simp [fl4] at hx; rw [hx]; exact this
 | [a, b], h => intro x hx; have h1 := h a (by simp); have h2 := h b (by simp); simp [fl4] at hx; rcases hx with hx | hx | hx | hx <;> rw [hx] <;> assumption
 | [a, b, c], h => intro x hx; have h1 := h a (by simp); have h2 := h b (by simp); have h3 := h c (by simp); simp [fl4] at hx; rcases hx with hx | hx | hx | hx <;> rw [hx] <;> assumption
 | a :: b :: c :: d :: r, h => exact h
theorem pt_mem (l : List TValue) (hlb : zVs l ≤ 1048576) : ∀ x ∈ pt l, zVs x ≤ 1048576 := by
 unfold pt
 cases decide (l.length = 0)
 ·cases (cond (isS l 0) true (isS l (l.length - 1)))
  ·rw [cond_false, cond_false]
   cases hg : gl l l.length 0 [] with
   | none => intro x hx; cases hx
   | some v =>
    have := gl_mem l hlb l.length 0 [] v (by omega) (fun x hx => by cases hx) hg
    show ∀ x ∈ cond (decide (4 < v.length)) [] (fl4 v), zVs x ≤ 1048576
    cases decide (4 < v.length)
    ·exact fl4_mem v this
    ·intro x hx; cases hx
  ·intro x hx; cases hx
 ·intro x hx; cases hx
def prt (w : Str) (l : List TValue) : LV := cond ((ln (cond (w == mrg) (pt l) [l])) != (ln (los w))) [] (cond (alr (los w) (cond (w == mrg) (pt l) [l]) 0 (los w).length) (cond (w == mrg) (pt l) [l]) [])
theorem los_len (w : Str) : (los w).length ≤ 4 := by
 unfold los
 cases (w == mrg) <;> cases isShort w <;> exact Nat.le_of_ble_eq_true rfl
theorem parts_p (w : Str) (l : List TValue) (hw : w.length ≤ 1048576) (hlb : zVs l ≤ 1048576) : short_parts FU w l = some (prt w l) := by
 have hl := z_len l
 have hll := los_len w
 have e1 : (cond (w == [109, 97, 114, 103, 105, 110]) (Option.bind (short_sides FU l) fun y16 => some y16) (some ([l] : LV)) : Option LV) = some (cond (w == mrg) (pt l) [l]) := by
  rw [sides_p l (by omega)]
  show cond (w == mrg) _ _ = _
  cases (w == mrg) <;> rfl
 have hm : ∀ x ∈ cond (w == mrg) (pt l) [l], zVs x ≤ 1048576 := by
  cases (w == mrg)
  ·intro x hx; rw [List.mem_singleton.1 hx]; exact hlb
  ·exact pt_mem l hlb
 unfold short_parts prt
 rw [e1, Option.bind_some, of_p w hw, Option.bind_some]
 generalize cond (w == mrg) (pt l) [l] = z at *
 cases hn : ((ln z) != (ln (los w)))
 ·have hlen : z.length = (los w).length := by
   have := bne_eq_false_iff_eq.1 hn
   unfold ln at this
   omega
  rw [cond_false, cond_false, show short_parts_L1 FU z (los w) FU 0 = _ from parts_p_L1 (los w) z hlen (by omega) hm FU 0 (los w).length (by omega) (by unfold FU; omega)]
  cases alr (los w) z 0 (los w).length <;> rfl
 ·rfl
theorem great_ex (v : List TValue) (h : zVs v ≤ 1048576) : ∃ b, r04_Great FU v = some b := by
 obtain ⟨q, hq⟩ := size_r FU (by decide) FU v 300 (by unfold FU; omega) h
 have hd := deep_r FU (by decide) FU v (by unfold FU; omega) h
 unfold r04_Great r04_Size r04_Deep
 rw [hq, Option.bind_some, hd]
 cases decide (300 < q) <;> exact ⟨_, rfl⟩
theorem prt_len (w : Str) (l : List TValue) : ((ln (prt w l)) == 0) = true ∨ (prt w l).length = (los w).length := by
 unfold prt
 cases hn : ((ln (cond (w == mrg) (pt l) [l])) != (ln (los w)))
 ·rw [cond_false]
  cases alr (los w) (cond (w == mrg) (pt l) [l]) 0 (los w).length
  ·exact Or.inl rfl
  ·right
   have := bne_eq_false_iff_eq.1 hn
   unfold ln at this
   rw [cond_true]
   omega
 ·exact Or.inl rfl
theorem prt_mem (w : Str) (l : List TValue) (hlb : zVs l ≤ 1048576) : ∀ x ∈ prt w l, zVs x ≤ 1048576 := by
 have hm : ∀ x ∈ cond (w == mrg) (pt l) [l], zVs x ≤ 1048576 := by
  cases (w == mrg)
  ·intro x hx; rw [List.mem_singleton.1 hx]; exact hlb
  ·exact pt_mem l hlb
 unfold prt
 cases ((ln (cond (w == mrg) (pt l) [l])) != (ln (los w)))
 ·rw [cond_false]
  cases alr (los w) (cond (w == mrg) (pt l) [l]) 0 (los w).length
  ·intro x hx; cases hx
  ·exact hm
 ·intro x hx; cases hx
end Go.Proofs.YtpgflfjmjppmeaaGreatDoor

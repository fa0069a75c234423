/-
 The code's side alone: what is right for a property, and the parts of a shorthand. No program in sight.
-/
import Derived.Test.YtpgflfjmjppmeaaGreatDoorS4
set_option linter.unusedVariables false
set_option maxRecDepth 100000
namespace Go.Proofs.YtpgflfjmjppmeaaGreatDoor
open Go Go.V Go.RowKit
theorem words_lt : (tab.all fun p => decide (p.Words.length < 60) && decide (p.Kinds.length < 60) && !(p.Kinds.contains 1)) = true := by kernel_rfl
theorem gi_mem {prop : Int} (h : 0 ≤ prop ∧ prop < ln tab) : gi tab prop ∈ tab := by
 obtain ⟨i, rfl⟩ : ∃ i : Nat, prop = i := ⟨prop.toNat, by omega⟩
 have hi : i < tab.length := by unfold ln at h; omega
 rw [gi_nat _ _ hi]
 exact List.getElem_mem _
theorem cont_i (l : List Int) (x : Int) (h : l.length < 60) : slices_Contains_uint8_uint8 64 l x = some (scanO (fun i => x == gi l i) l.length 0).isSome := by
 have h1 := scan_of (slices_Index_uint8_uint8_L1 64 l x) (fun i => x == gi l i) (fun i => Sum.inl i) (Sum.inr ()) (ln l) l.length rfl (by omega)
  (fun kk i hi => by rw [slices_Index_uint8_uint8_L1]; exact scan_chk hi) l.length 0 64 rfl (by omega) (by omega)
 unfold slices_Contains_uint8_uint8 slices_Index_uint8_uint8
 rw [show (0 : Int) = ((0 : Nat) : Int) from rfl, h1]
 cases hf : scanO (fun i => x == gi l i) l.length 0 with
 | none => rfl
 | some r =>
  have h0 := scanO_ge _ _ _ _ hf
  have h2 : decide (((0 : Nat) : Int) ≤ r) = true := decide_eq_true (by omega)
  show some (decide (((0 : Nat) : Int) ≤ r)) = _
  rw [h2]
  rfl
def hasW (p : TProp) (w : Str) : Bool := (scanO (fun i => w == gi p.Words i) p.Words.length 0).isSome
def hasK (p : TProp) (v : TVal) : Bool := cond (scanO (fun i => v.Kind == gi p.Kinds i) p.Kinds.length 0).isSome (cond (!p.Least) true (decide (0 ≤ v.Num))) false
def hasA (prop : Int) (v : TVal) (e : Int) : Bool × Int := cond (cond (decide (prop < 0)) true (decide (18 ≤ prop))) (false, 2)
 (cond (e != 0) (false, 0) (cond (v.Kind == 1) (hasW (gi tab prop) v.Word, 0) (hasK (gi tab prop) v, 0)))
theorem rng {prop : Int} (h : cond (decide (prop < 0)) true (decide (18 ≤ prop)) = false) : 0 ≤ prop ∧ prop < ln tab := by
 rw [tab_ln]
 by_cases h1 : prop < 0
 ·rw [decide_eq_true h1] at h; cases h
 ·rw [decide_eq_false h1] at h
  have : ¬ (18 ≤ prop) := of_decide_eq_false h
  omega
theorem lens {prop : Int} (h : 0 ≤ prop ∧ prop < ln tab) : (gi tab prop).Words.length < 60 ∧ (gi tab prop).Kinds.length < 60 ∧ (gi tab prop).Kinds.contains 1 = false := by
 have := List.all_eq_true.1 words_lt _ (gi_mem h)
 simp only [Bool.and_eq_true, decide_eq_true_eq, Bool.not_eq_true'] at this
 exact ⟨this.1.1, this.1.2, this.2⟩
theorem has_p (prop : Int) (v : TVal) (e : Int) (he : props_Check v = some e) : props_Has 64 prop v = some (hasA prop v e) := by
 unfold props_Has hasA
 simp only [lt_eq]
 cases hr : cond (decide (prop < 0)) true (decide (18 ≤ prop))
 ·have h0 := rng hr
  obtain ⟨l1, l2, _⟩ := lens h0
  simp only [cond_false]
  rw [tab_p]
  simp only [Option.bind_some]
  rw [chk_pos h0, he]
  simp only [Option.bind_some]
  cases (e != 0)
  ·simp only [cond_false]
   rw [cont_s _ _ l1, cont_i _ _ l2]
   simp only [Option.bind_some]
   cases (v.Kind == 1) <;> rfl
  ·rfl
 ·rfl
theorem has_ex (prop : Int) (v : TVal) : ∃ q, props_Has 64 prop v = some q := by
 obtain ⟨e, he⟩ := check_ex v
 exact ⟨_, has_p prop v e he⟩
theorem ps_ex (prop : Int) (l : List TVal) (hl : l.length ≤ 4) : ∀ (kk i : Nat), l.length - i < kk → i ≤ l.length → ∃ z, parseval_Parse_L1 FU prop l kk (i : Int) = some z := by
 intro kk
 induction kk with
 | zero => intro i h; omega
 | succ kk ih =>
  intro i h hi
  rw [parseval_Parse_L1]
  by_cases h1 : i < l.length
  ·obtain ⟨⟨is, e⟩, hx⟩ := has_ex prop (gi l (i : Int))
   rw [lt_dec h1, cond_true, chk_ix h1, hx, Option.bind_some]
   dsimp only
   cases is
   ·rw [cond_false, w64_ix (by omega)]
    exact ih (i + 1) (by omega) (by omega)
   ·exact ⟨_, rfl⟩
  ·rw [ge_dec (by omega), cond_false]
   exact ⟨_, rfl⟩
theorem parse_ex (prop : Int) (l : List TValue) (hl : zVs l ≤ 1048576) : ∃ r, parseval_Parse FU prop l = some r := by
 unfold parseval_Parse
 rw [lt_eq]
 cases (cond (decide (prop < 0)) true (decide (18 ≤ prop)))
 ·rw [cond_false]
  by_cases h1 : ln l = 1
  ·have hlen : 0 < l.length := by unfold ln at h1; omega
   have hm := gi_mem' (l := l) (i := 0) hlen
   have hz := z_mem hm
   obtain ⟨q, hq, ql⟩ := maybe_ex (gi l ((0 : Nat) : Int)) (by omega)
   rw [h1, bne_self_eq_false, cond_false, chk_pos ⟨by decide, by decide⟩, show parseval_maybe FU (gi l (0 : Int)) = some q from hq, Option.bind_some]
   obtain ⟨z, h⟩ := ps_ex prop q ql FU 0 (by unfold FU; omega) (Nat.zero_le _)
   rw [show parseval_Parse_L1 FU prop q FU 0 = _ from h]
   cases z <;> exact ⟨_, rfl⟩
  ·rw [show (ln l != 1) = true from bne_iff_ne.2 h1]
   exact ⟨_, rfl⟩
 ·exact ⟨_, rfl⟩
def rgt (name : Str) (l : List TValue) : Bool := (short_right FU name l).getD false
theorem right_p (name : Str) (l : List TValue) (hl : zVs l ≤ 1048576) : short_right FU name l = some (rgt name l) := by
 have h : ∃ b, short_right FU name l = some b := by
  unfold short_right
  rw [find_p, Option.bind_some]
  cases ((findA name).2 != 0)
  ·obtain ⟨r, h1⟩ := parse_ex (findA name).1 l hl
   rw [cond_false, h1]
   exact ⟨_, rfl⟩
  ·exact ⟨_, rfl⟩
 obtain ⟨b, h1⟩ := h
 unfold rgt
 rw [h1]
 rfl
end Go.Proofs.YtpgflfjmjppmeaaGreatDoor

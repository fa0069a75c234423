/-
 WideApart: the model comes to 'true' for all declarations and names. No program in sight.
-/
import Derived.Test.YtehlikdeobajcaaGreatDoorT4
set_option linter.unusedVariables false
set_option maxRecDepth 100000
namespace Go.Proofs.YtehlikdeobajcaaGreatDoor
open Go Go.V Go.RowKit
theorem own_L1 (l : List TDeclared) (name : Str) (hl : l.length ≤ 1048576) : ∀ (kk i : Nat), l.length - i < kk → i ≤ l.length →
  law31_WideApart_L1 FU l name kk ((l.take i).filter fun d => d.Long.Name == name) (i : Int) = some (l.filter fun d => d.Long.Name == name) := by
 intro kk
 induction kk with
 | zero => intro i h; omega
 | succ kk ih =>
  intro i h hi
  rw [law31_WideApart_L1]
  by_cases h1 : i < l.length
  ·have e := filt_succ l (fun d => d.Long.Name == name) h1
   have hn : ((l.take i).filter fun d => d.Long.Name == name).length ≤ l.length := Nat.le_trans (List.length_filter_le _ _) (by rw [List.length_take]; omega)
   rw [lt_dec h1, cond_true, chk_ix h1, w64_ix (by omega)]
   cases hq : ((gi l (i : Int)).Long.Name == name)
   ·rw [hq, cond_false, List.append_nil] at e
    rw [cond_false, Option.bind_some, ← e]
    exact ih (i + 1) (by omega) (by omega)
   ·rw [hq, cond_true] at e
    rw [cond_true, chk_pos (by unfold ln; simp only [List.length_cons, List.length_nil]; omega), lt_eq, Option.bind_some, ← e]
    exact ih (i + 1) (by omega) (by omega)
  ·rw [ge_dec (by omega), cond_false, List.take_of_length_le (by omega)]
theorem dec_word (l : List TDeclared) (hs : smalls l) (name : Str) : ∀ (k : Nat) (below : Int), below.toNat < k → (∀ d ∈ l, 0 ≤ d.Origin) → (match (dec k l below name).1 with
  | none => (dec k l below name).2 = [105, 110, 105, 116, 105, 97, 108] ∨ (dec k l below name).2 = [105, 110, 104, 101, 114, 105, 116]
  | some d => (dec k l below name).2 = [] ∧ d.Long.Name = name) := by
 intro k
 induction k with
 | zero => intro below h; omega
 | succ k ih =>
  intro below h h0
  have hu : uns name = [105, 110, 105, 116, 105, 97, 108] ∨ uns name = [105, 110, 104, 101, 114, 105, 116] := by
   unfold uns; cases (inh name).1
   ·exact Or.inl rfl
   ·exact Or.inr rfl
  rw [dec]
  cases hd : lastD l below name with
  | none => exact hu
  | some d =>
   obtain ⟨hm, hn, hb⟩ := pD_some hd
   dsimp only
   obtain ⟨_, w2⟩ := wide_ex _ (hs.2 _ hm).1
   by_cases hw : d.Long.Whole = []
   ·rw [if_pos hw]
    by_cases h1 : wid d.Long.Value = []
    ·rw [if_pos h1]; exact ⟨rfl, hn⟩
    ·rw [if_neg h1]
     by_cases h2 : wid d.Long.Value = REV
     ·rw [if_pos h2, hn]
      exact ih _ (by have := h0 d hm; omega) h0
     ·rw [if_neg h2]
      by_cases h3 : wid d.Long.Value = UNS
      ·rw [if_pos h3, hn]; exact hu
      ·rw [if_neg h3]
       rcases w2 with w | w | w | w | w
       ·exact absurd w h1
       ·exact Or.inl w
       ·exact Or.inr w
       ·exact absurd w h3
       ·exact absurd w h2
   ·rw [if_neg hw]; exact ⟨rfl, hn⟩
theorem apart (l : List TDeclared) (name : Str) (hs : smalls l) : law31_WideApart FU l name = some true := by
 have hl := hs.1
 unfold law31_WideApart
 rw [alive_ok, Option.bind_some]
 obtain ⟨g, hg⟩ := great_ex l hs
 rw [hg, Option.bind_some]
 cases g
 rotate_left
 ·rfl
 rw [cond_false, asked_r l hs, Option.bind_some, lt_eq]
 by_cases ha : askI l = 0
 rotate_left
 ·rw [show (askI l != 0) = true from bne_iff_ne.2 ha]; rfl
 rw [ha]
 show cond (cond (decide (200 < ln name)) true (!true)) _ _ = _
 cases decide (200 < ln name)
 rotate_left
 ·rfl
 show (Option.bind (wide_Decide FU l name) _) = _
 have hso : smalls (l.filter fun d => d.Long.Name == name) := ⟨Nat.le_trans (List.length_filter_le _ _) hl, fun d hd => hs.2 d (List.mem_filter.1 hd).1⟩
 rcases Decide_p l hs name ha with ⟨h1, h2⟩ | ⟨hi, a, o, s, h1, h2, h3⟩
 ·rw [h1]; rfl
 rcases Decide_p _ hso name (ask_filter l _ ha) with ⟨h1', h2'⟩ | ⟨hi', a', o', s', h1', h2', h3'⟩
 ·exact absurd hi h2'
 rw [h1, Option.bind_some]
 show (Option.bind (law31_WideApart_L1 FU l name FU [] 0) _) = _
 have ho : law31_WideApart_L1 FU l name FU [] 0 = some (l.filter fun d => d.Long.Name == name) := own_L1 l name hl FU 0 (by unfold FU; omega) (Nat.zero_le _)
 rw [ho, Option.bind_some, h1', Option.bind_some]
 have hf : ∀ b, (l.filter fun d => d.Long.Name == name).filter (pD b name) = l.filter (pD b name) := fun b => by
  rw [List.filter_filter]
  congr 1
  funext d
  unfold pD
  cases (d.Long.Name == name) <;> simp
 have he := dec_same l (l.filter fun d => d.Long.Name == name) name 5 4 4 (hf 4).symm (fun b _ => (hf b).symm)
 rw [h2, h2'] at he
 obtain ⟨e1, e2⟩ := Prod.mk.inj he
 subst e1; subst e2
 have hw := dec_word l hs name 5 4 (by decide) (fun d hd => by have := ok_origin (ask_ok ha d hd); omega)
 rw [h2] at hw
 cases o with
 | none =>
  have e1 : a = -1 := h3
  have e2 : a' = -1 := h3'
  subst e1; subst e2
  have hw : s = [105, 110, 105, 116, 105, 97, 108] ∨ s = [105, 110, 104, 101, 114, 105, 116] := hw
  rw [beq_self_eq_true]
  rcases hw with rfl | rfl <;> rfl
 | some d =>
  obtain ⟨i, hi1, rfl, hi3⟩ := h3
  obtain ⟨j, hj1, rfl, hj3⟩ := h3'
  obtain ⟨rfl, hn⟩ : s = [] ∧ d.Long.Name = name := hw
  dsimp only
  rw [beq_self_eq_true, decide_eq_false (show ¬ ((i : Nat) : Int) < 0 from by omega), decide_eq_false (show ¬ ((j : Nat) : Int) < 0 from by omega)]
  simp only [lt_eq, bne_self_eq_false, cond_false, cond_true, Bool.not_true, beq_self_eq_true, lt_dec hi1, lt_dec hj1]
  rw [chk_pos (fun _ => ⟨by omega, by unfold ln; omega⟩), hi3, hn, beq_self_eq_true, chk_pos (fun _ => ⟨by omega, by unfold ln; omega⟩), chk_pos (fun _ => ⟨by omega, by unfold ln; omega⟩), cond_true, hj3]
  have hd : d ∈ l := by rw [← hi3]; exact gi_mem' hi1
  rw [same_one d (hs.2 d hd)]
  rfl
abbrev bkLo (x : TLong) : Nat := (x.Name.length + 1) + bkL zV x.Value + (x.Whole.length + 1) + 1
abbrev bkW (x : TWeight) : Nat := 1 + 1 + 1 + 1
abbrev bkD (x : TDeclared) : Nat := bkLo x.Long + 1 + 1 + 1 + 1 + bkW x.Weight + 1 + 1
theorem plain_WideApart (l : List TDeclared) (name : Str) {p q : Prop} (_ : p) (_ : q) (hb : bkL bkD l + (name.length + 1) + 0 ≤ 1048576) : law31_WideApart FU l name = some true := by
 refine apart l name ⟨?_, fun d hd => ?_⟩
 ·have := bkL_len (bk := bkD) (fun x => by unfold bkD; omega) l
  omega
 ·have h0 := bkL_mem (bk := bkD) hd
  have h1 : bkD d ≤ 1048576 := by omega
  have h2 : bkL zV d.Long.Value = zVs d.Long.Value + 1 := by rw [z_map]; rfl
  have h3 : (d.Long.Name.length + 1) + bkL zV d.Long.Value + (d.Long.Whole.length + 1) + 1 + 1 + 1 + 1 + 1 + bkW d.Weight + 1 + 1 ≤ 1048576 := h1
  exact ⟨by omega, by omega, by omega⟩
end Go.Proofs.YtehlikdeobajcaaGreatDoor

/-
 What a list says for a property: the last declaration that counts, and its keyword. No program in sight.
-/
import Derived.Test.YtehlikdeobajcaaGreatDoorT3
set_option linter.unusedVariables false
set_option maxRecDepth 100000
namespace Go.Proofs.YtehlikdeobajcaaGreatDoor
open Go Go.V Go.RowKit
theorem z_tok (x : TValue) : x.Token.Text.length ≤ zV x := by
 obtain ⟨t, l⟩ := x
 simp only [zV, zT, TValue.Token]
 omega
def words : List Str := [[105, 110, 105, 116, 105, 97, 108], [105, 110, 104, 101, 114, 105, 116], [117, 110, 115, 101, 116], [114, 101, 118, 101, 114, 116]]
def REV : Str := [114, 101, 118, 101, 114, 116]
def UNS : Str := [117, 110, 115, 101, 116]
theorem small_L1 (m : Nat) (s : Str) (hs : s.length ≤ 1048576) : ∀ (kk i : Nat) (b : List Int), s.length - i < kk → i ≤ s.length → ∃ r, short_small_L1 m s kk (i : Int) b = some r := by
 intro kk
 induction kk with
 | zero => intro i b h; omega
 | succ kk ih =>
  intro i b h hi
  have hl : (ofB s).length = s.length := by simp [ofB]
  rw [short_small_L1]
  by_cases h1 : i < s.length
  ·rw [lt_dec (by rw [hl]; exact h1), cond_true, chk_ix (by rw [hl]; exact h1), lt_eq, w64_ix (by omega)]
   cases (cond (decide (65 ≤ gi b (i : Int))) (decide (gi b (i : Int) ≤ 90)) false)
   ·exact ih (i + 1) _ (by omega) (by omega)
   ·exact ih (i + 1) _ (by omega) (by omega)
  ·rw [ge_dec (by rw [hl]; omega), cond_false]
   exact ⟨_, rfl⟩
theorem small_ex (s : Str) (hs : s.length ≤ 1048576) : ∃ r, short_small FU s = some r := by
 obtain ⟨r, h⟩ := small_L1 FU s hs FU 0 (ofB s) (by unfold FU; omega) (Nat.zero_le _)
 exact ⟨toB r, by unfold short_small; rw [show (0 : Int) = ((0 : Nat) : Int) from rfl, h]; rfl⟩
def wid (v : List TValue) : Str := (short_Wide FU v).getD []
theorem cont4 (x : Str) : slices_Contains_string_string 64 words x = some (cond (x == [105, 110, 105, 116, 105, 97, 108]) true (cond (x == [105, 110, 104, 101, 114, 105, 116]) true (cond (x == UNS) true (x == REV)))) := by
 rw [cont_s words x (by decide)]
 congr 1
 exact scan4 _ _ _ _ x
theorem wide_ex (v : List TValue) (hv : zVs v ≤ 1048576) : short_Wide FU v = some (wid v) ∧ (wid v = [] ∨ wid v = [105, 110, 105, 116, 105, 97, 108] ∨ wid v = [105, 110, 104, 101, 114, 105, 116] ∨ wid v = UNS ∨ wid v = REV) := by
 have key : ∃ w, short_Wide FU v = some w ∧ (w = [] ∨ w = [105, 110, 105, 116, 105, 97, 108] ∨ w = [105, 110, 104, 101, 114, 105, 116] ∨ w = UNS ∨ w = REV) := by
  unfold short_Wide
  by_cases h1 : ln v = 1
  ·have h0 : 0 ≤ (0 : Int) ∧ (0 : Int) < ln v := by omega
   rw [chk_pos (fun _ => h0), lt_eq]
   cases hx : (cond (ln v == 1) ((gi v (0 : Int)).Token.Kind == 1) false)
   ·exact ⟨[], rfl, Or.inl rfl⟩
   ·rw [cond_true, chk_pos h0]
    have hm : gi v (0 : Int) ∈ v := gi_mem' (i := 0) (by unfold ln at h1; omega)
    have h2 := z_mem hm
    have h3 : (gi v (0 : Int)).Token.Text.length ≤ 1048576 := by have := z_tok (gi v (0 : Int)); omega
    obtain ⟨r, hr⟩ := small_ex _ h3
    rw [hr, Option.bind_some]
    show ∃ w, Option.bind (Option.bind (slices_Contains_string_string 64 words r) _) _ = _ ∧ _
    rw [cont4, Option.bind_some]
    cases b1 : (r == ([105, 110, 105, 116, 105, 97, 108] : Str))
    ·cases b2 : (r == ([105, 110, 104, 101, 114, 105, 116] : Str))
     ·cases b3 : (r == UNS)
      ·cases b4 : (r == REV)
       ·exact ⟨[], rfl, Or.inl rfl⟩
       ·exact ⟨r, rfl, Or.inr (Or.inr (Or.inr (Or.inr (eq_of_beq b4))))⟩
      ·exact ⟨r, rfl, Or.inr (Or.inr (Or.inr (Or.inl (eq_of_beq b3))))⟩
     ·exact ⟨r, rfl, Or.inr (Or.inr (Or.inl (eq_of_beq b2)))⟩
    ·exact ⟨r, rfl, Or.inr (Or.inl (eq_of_beq b1))⟩
  ·have hb : (ln v == 1) = false := by simpa using h1
   rw [hb, chk_pos (fun h => by cases h), lt_eq]
   exact ⟨[], rfl, Or.inl rfl⟩
 obtain ⟨w, h1, h2⟩ := key
 have e : wid v = w := by unfold wid; rw [h1]; rfl
 rw [e]
 exact ⟨h1, h2⟩
def uns (n : Str) : Str := cond (inh n).1 [105, 110, 104, 101, 114, 105, 116] [105, 110, 105, 116, 105, 97, 108]
theorem uns_p (m : Nat) (n : Str) : wide_unset m n = some (uns n) := by
 unfold wide_unset uns
 rw [inh_p, Option.bind_some]
 cases (inh n).1 <;> rfl
def pD (below : Int) (name : Str) (d : TDeclared) : Bool := !(cond (!(d.Long.Name == name)) true (decide (below ≤ d.Origin)))
def lastD (l : List TDeclared) (below : Int) (name : Str) : Option TDeclared := (l.filter (pD below name)).getLast?
theorem pD_some {l : List TDeclared} {below : Int} {name : Str} {d : TDeclared} (h : lastD l below name = some d) : d ∈ l ∧ d.Long.Name = name ∧ d.Origin < below := by
 have h1 := List.mem_of_getLast? h
 obtain ⟨h2, h3⟩ := List.mem_filter.1 h1
 refine ⟨h2, ?_⟩
 unfold pD at h3
 cases hn : (d.Long.Name == name)
 ·rw [hn] at h3; cases h3
 ·rw [hn] at h3
  refine ⟨eq_of_beq hn, ?_⟩
  by_cases h4 : below ≤ d.Origin
  ·rw [decide_eq_true h4] at h3; cases h3
  ·omega
theorem filt_succ (l : List TDeclared) (p : TDeclared → Bool) {j : Nat} (h : j < l.length) : (l.take (j + 1)).filter p = (l.take j).filter p ++ cond (p (gi l (j : Int))) [gi l (j : Int)] [] := by
 rw [List.take_succ_eq_append_getElem h, List.filter_append, gi_nat l j h, List.filter_cons]
 cases p l[j] <;> rfl
def ixs (l : List TDeclared) (p : TDeclared → Bool) (n : Nat) : List Nat := (List.range n).filter fun (i : Nat) => p (gi l (i : Int))
theorem ixs_succ (l : List TDeclared) (p : TDeclared → Bool) (j : Nat) : ixs l p (j + 1) = ixs l p j ++ cond (p (gi l (j : Int))) [j] [] := by
 unfold ixs
 rw [List.range_succ, List.filter_append, List.filter_cons]
 cases p (gi l (j : Int)) <;> rfl
theorem ixs_map (l : List TDeclared) (p : TDeclared → Bool) : ∀ n, n ≤ l.length → (ixs l p n).map (fun (i : Nat) => gi l (i : Int)) = (l.take n).filter p
 | 0, _ => rfl
 | n + 1, h => by
  rw [ixs_succ, List.map_append, ixs_map l p n (by omega), filt_succ l p (by omega)]
  cases p (gi l (n : Int)) <;> rfl
def lastI (l : List TDeclared) (below : Int) (name : Str) : Option Nat := (ixs l (pD below name) l.length).getLast?
theorem lastI_map (l : List TDeclared) (below : Int) (name : Str) : lastD l below name = (lastI l below name).map fun (i : Nat) => gi l (i : Int) := by
 unfold lastD lastI
 have h := ixs_map l (pD below name) l.length (Nat.le_refl _)
 rw [List.take_length] at h
 rw [← h, List.getLast?_map]
def decI : Nat → List TDeclared → Int → Str → Option Nat × Str
 | 0, _, _, _ => (none, [])
 | k + 1, l, below, name => match lastI l below name with
  | none => (none, uns name)
  | some i => if (gi l (i : Int)).Long.Whole = [] then (if wid (gi l (i : Int)).Long.Value = [] then (some i, []) else if wid (gi l (i : Int)).Long.Value = REV then decI k l (gi l (i : Int)).Origin (gi l (i : Int)).Long.Name else if wid (gi l (i : Int)).Long.Value = UNS then (none, uns (gi l (i : Int)).Long.Name) else (none, wid (gi l (i : Int)).Long.Value)) else (some i, [])
theorem decI_fuel (l : List TDeclared) (h0 : ∀ d ∈ l, 0 ≤ d.Origin) : ∀ (k k' : Nat) (below : Int) (name : Str), below.toNat < k → below.toNat < k' → decI k l below name = decI k' l below name := by
 intro k
 induction k with
 | zero => intro k' below name h; omega
 | succ k ih =>
  intro k' below name h h'
  obtain ⟨k', rfl⟩ : ∃ q, k' = q + 1 := ⟨k' - 1, by omega⟩
  rw [decI, decI]
  cases hd : lastI l below name with
  | none => rfl
  | some i =>
   have hd' : lastD l below name = some (gi l (i : Int)) := by rw [lastI_map, hd]; rfl
   obtain ⟨hm, hn, hb⟩ := pD_some hd'
   have := h0 _ hm
   dsimp only
   rw [ih k' (gi l (i : Int)).Origin (gi l (i : Int)).Long.Name (by omega) (by omega)]
def ixI : Option Nat → Int
 | none => -1
 | some i => (i : Int)
theorem decide_L1 (m : Nat) (l : List TDeclared) (below : Int) (name : Str) (rec : List TDeclared → Int → Str → Option (Int × Str)) (hs : smalls l)
  (hrec : ∀ d ∈ l, d.Origin < below → rec l d.Origin d.Long.Name = some (ixI (decI m l d.Origin d.Long.Name).1, (decI m l d.Origin d.Long.Name).2)) :
  ∀ (i kk : Nat), i < kk → i ≤ l.length → lastI l below name = (ixs l (pD below name) i).getLast? →
   wide_decide_L1 FU l below name l rec kk ((i : Int) - 1) = some (ixI (decI (m + 1) l below name).1, (decI (m + 1) l below name).2) := by
 intro i
 induction i with
 | zero =>
  intro kk h hi he
  obtain ⟨kk, rfl⟩ : ∃ q, kk = q + 1 := ⟨kk - 1, by omega⟩
  rw [wide_decide_L1, decide_eq_true (by omega), cond_true, uns_p, Option.bind_some, decI, he]
  rfl
 | succ j ih =>
  intro kk h hi he
  obtain ⟨kk, rfl⟩ : ∃ q, kk = q + 1 := ⟨kk - 1, by omega⟩
  have e1 : (((j + 1 : Nat) : Int) - 1) = (j : Int) := by omega
  rw [wide_decide_L1, e1, decide_eq_false (by omega), cond_false, lt_eq]
  have hj : j < l.length := by omega
  have hm := gi_mem' hj
  rw [ixs_succ] at he
  have hp : (cond (!((gi l (j : Int)).Long.Name == name)) true (decide (below ≤ (gi l (j : Int)).Origin))) = !(pD below name (gi l (j : Int))) := by unfold pD; rw [Bool.not_not]
  rw [hp]
  cases hq : pD below name (gi l (j : Int))
  ·rw [hq] at he
   rw [cond_false, List.append_nil] at he
   rw [Bool.not_false, cond_true]
   exact ih kk (by omega) (by omega) he
  ·rw [hq, cond_true, List.getLast?_concat] at he
   have hd' : lastD l below name = some (gi l (j : Int)) := by rw [lastI_map, he]; rfl
   obtain ⟨_, hn, hb⟩ := pD_some hd'
   rw [Bool.not_true, cond_false, decI, he]
   dsimp only
   obtain ⟨hz, _, _⟩ := hs.2 _ hm
   obtain ⟨w1, w2⟩ := wide_ex _ hz
   by_cases hw : (gi l (j : Int)).Long.Whole = []
   ·rw [if_pos hw, hw, beq_self_eq_true, cond_true, w1, Option.bind_some]
    by_cases h1 : wid (gi l (j : Int)).Long.Value = []
    ·rw [if_pos h1, h1]
     rfl
    ·rw [if_neg h1, show (wid (gi l (j : Int)).Long.Value == []) = false from by simpa using h1, Bool.not_false, cond_true]
     unfold wide_mean_2
     rw [chk_ix hj]
     by_cases h2 : wid (gi l (j : Int)).Long.Value = REV
     ·rw [if_pos h2, h2, show (REV == ([114, 101, 118, 101, 114, 116] : Str)) = true from rfl, cond_true, hrec _ hm hb]
      rfl
     ·rw [if_neg h2, show (wid (gi l (j : Int)).Long.Value == ([114, 101, 118, 101, 114, 116] : Str)) = false from beq_eq_false_iff_ne.2 h2, cond_false]
      by_cases h3 : wid (gi l (j : Int)).Long.Value = UNS
      ·rw [if_pos h3, h3, show (UNS == ([117, 110, 115, 101, 116] : Str)) = true from rfl, cond_true, uns_p]
       rfl
      ·rw [if_neg h3, show (wid (gi l (j : Int)).Long.Value == ([117, 110, 115, 101, 116] : Str)) = false from beq_eq_false_iff_ne.2 h3, cond_false]
       rfl
   ·rw [if_neg hw, show ((gi l (j : Int)).Long.Whole == []) = false from by simpa using hw]
    rfl
theorem decide_r (l : List TDeclared) (hs : smalls l) (h0 : ∀ d ∈ l, 0 ≤ d.Origin) : ∀ (k : Nat) (below : Int) (name : Str), below.toNat < k →
  wide_decide_r FU k l below name = some (ixI (decI k l below name).1, (decI k l below name).2) := by
 intro k
 induction k with
 | zero => intro below name h; omega
 | succ k ih =>
  intro below name h
  have hl := hs.1
  rw [wide_decide_r, lt_eq, show slices_Backward_api_Declared_api_Declared l = l from rfl, chk_pos (by unfold ln; omega)]
  exact decide_L1 k l below name _ hs (fun d hd hb => by have := h0 d hd; exact ih _ _ (by omega)) l.length FU (by unfold FU; omega) (Nat.le_refl _) rfl
theorem decide_i (l : List TDeclared) (hs : smalls l) (name : Str) (below : Int) (hb : below ≤ 4) (h0 : ∀ d ∈ l, 0 ≤ d.Origin) : wide_decide FU l below name = some (ixI (decI 5 l below name).1, (decI 5 l below name).2) := by
 rw [show wide_decide FU l below name = wide_decide_r FU FU l below name from rfl, decide_r l hs h0 FU below name (by unfold FU; omega), decI_fuel l h0 5 FU below name (by omega) (by unfold FU; omega)]
theorem same_one (d : TDeclared) (h : small d) : r29_SameOne FU d d = some true := by
 unfold r29_SameOne r27_SameLongs
 have e : r27_SameLongs_L1 FU [d.Long] [d.Long] FU 0 = some (.inr ()) := by
  have f0 : ∀ k, r27_SameLongs_L1 FU [d.Long] [d.Long] (k + 1) ((0 : Nat) : Int) = r27_SameLongs_L1 FU [d.Long] [d.Long] k ((1 : Nat) : Int) := fun k => by
   rw [r27_SameLongs_L1, lt_dec (show 0 < 1 from by decide), cond_true, chk_ix (show 0 < 1 from by decide), chk_ix (show 0 < 1 from by decide), lt_eq, lt_eq, show gi [d.Long] ((0 : Nat) : Int) = d.Long from rfl, beq_self_eq_true, beq_self_eq_true]
   rw [show r04_Same FU d.Long.Value d.Long.Value = some true from same_r FU fu_lt FU _ (by have := h.1; unfold FU; omega) h.1, w64_ix (by decide)]
   rfl
  have f1 : ∀ k, r27_SameLongs_L1 FU [d.Long] [d.Long] (k + 1) ((1 : Nat) : Int) = some (.inr ()) := fun k => by
   rw [r27_SameLongs_L1, ge_dec (show 1 ≤ 1 from by decide), cond_false]
  exact (f0 1099999).trans (f1 1099998)
 rw [e, bne_self_eq_false, cond_false, Option.bind_some]
 show Option.bind (some true) _ = _
 rw [Option.bind_some]
 simp only [lt_eq, beq_self_eq_true, cond_true, Bool.and_true]
theorem great_L1 (l : List TDeclared) (hs : smalls l) : ∀ (kk i : Nat) (n : Int), l.length - i < kk → i ≤ l.length → ∃ z, r29_Great_L1 FU l kk n (i : Int) = some z := by
 obtain ⟨hl, hs⟩ := hs
 intro kk
 induction kk with
 | zero => intro i n h; omega
 | succ kk ih =>
  intro i n h hi
  rw [r29_Great_L1, lt_eq]
  by_cases h1 : i < l.length
  ·rw [lt_dec h1, cond_true]
   cases decide ((i : Int) ≤ 40)
   ·exact ⟨_, rfl⟩
   ·obtain ⟨hz, _, _⟩ := hs _ (gi_mem' h1)
    obtain ⟨q, hq⟩ := size_r FU fu_lt FU (gi l (i : Int)).Long.Value 300 (by unfold FU; omega) hz
    have hd := deep_r FU fu_lt FU (gi l (i : Int)).Long.Value (by unfold FU; omega) hz
    have hg : ∃ b, r04_Great FU (gi l (i : Int)).Long.Value = some b := by
     unfold r04_Great r04_Size r04_Deep
     rw [hq, Option.bind_some, hd]
     cases decide (300 < q) <;> exact ⟨_, rfl⟩
    obtain ⟨b, hb⟩ := hg
    rw [cond_true, chk_ix h1, hb, Option.bind_some, lt_eq, lt_eq]
    cases (cond (cond b true (decide (100 < ln (gi l (i : Int)).Long.Name))) true (decide (100 < ln (gi l (i : Int)).Long.Whole)))
    ·rw [cond_false, show r04_Size FU (gi l (i : Int)).Long.Value 300 = some q from hq, Option.bind_some, w64_ix (by omega)]
     exact ih (i + 1) _ (by omega) (by omega)
    ·exact ⟨_, rfl⟩
  ·rw [ge_dec (by omega), cond_false]
   exact ⟨_, rfl⟩
theorem great_ex (l : List TDeclared) (hs : smalls l) : ∃ b, r29_Great FU l = some b := by
 unfold r29_Great
 obtain ⟨z, hz⟩ := great_L1 l hs FU 0 0 (by have := hs.1; unfold FU; omega) (Nat.zero_le _)
 rw [show (0 : Int) = ((0 : Nat) : Int) from rfl] at hz ⊢
 rw [hz, Option.bind_some]
 cases z with
 | inl b => exact ⟨b, rfl⟩
 | inr n => exact ⟨_, rfl⟩
theorem alive_ok : law31_alive 300 = some true := by kernel_rfl
end Go.Proofs.YtehlikdeobajcaaGreatDoor

/-
 The list of a colour's function: both readers take the same lists. No program in sight.
-/
import Derived.Test.YtpgflfjmjppmeaaGreatDoorT4
set_option linter.unusedVariables false
set_option maxRecDepth 100000
namespace Go.Proofs.YtpgflfjmjppmeaaGreatDoor
open Go Go.V Go.RowKit
def sy (t : TToken) : Nat := cond (t.Kind == 10) 0 (cond (t.Kind == 18) 1 (cond (cond (t.Kind == 9) (t.Text == [47]) false) 2 3))
def nsp (v : TValue) : Bool := !(v.Token.Kind == 13)
def sys (l : List TValue) : List Nat := (l.filter nsp).map fun v => sy v.Token
def chS : Nat → UInt8
 | 0 => 110
 | 1 => 44
 | 2 => 47
 | _ => 120
def chI (b : UInt8) : Nat := cond (b == 110) 0 (cond (b == 44) 1 (cond (b == 47) 2 3))
def rok (s : List Nat) : Bool := s == [0, 0, 0] || s == [0, 1, 0, 1, 0] || s == [0, 0, 0, 2, 0] || s == [0, 1, 0, 1, 0, 1, 0]
theorem sy_le (t : TToken) : sy t ≤ 3 := by
 unfold sy
 cases (t.Kind == 10) <;> cases (t.Kind == 18) <;> cases (cond (t.Kind == 9) (t.Text == [47]) false) <;> decide
theorem sys_le (l : List TValue) : ∀ x ∈ sys l, x ≤ 3 := by
 intro x hx
 obtain ⟨v, _, rfl⟩ := List.mem_map.1 hx
 exact sy_le _
theorem ch_inv {x : Nat} (h : x ≤ 3) : chI (chS x) = x := by
 obtain rfl | rfl | rfl | rfl : x = 0 ∨ x = 1 ∨ x = 2 ∨ x = 3 := by omega
 all_goals rfl
theorem ch_eq (s w : List Nat) (hs : ∀ x ∈ s, x ≤ 3) (hw : ∀ x ∈ w, x ≤ 3) : (s.map chS == w.map chS) = (s == w) := by
 have back : ∀ q : List Nat, (∀ x ∈ q, x ≤ 3) → (q.map chS).map chI = q := by
  intro q hq
  rw [List.map_map]
  conv => rhs; rw [← List.map_id q]
  exact List.map_congr_left fun x hx => ch_inv (hq x hx)
 by_cases h : s = w
 ·subst h
  rw [beq_self_eq_true, beq_self_eq_true]
 ·rw [show (s == w) = false from beq_eq_false_iff_ne.2 h]
  refine beq_eq_false_iff_ne.2 fun e => h ?_
  rw [← back s hs, e, back w hw]
theorem sys_drop {l : List TValue} {i : Nat} (h : i < l.length) : sys (l.drop i) = cond ((gi l (i : Int)).Token.Kind == 13) (sys (l.drop (i + 1))) (sy (gi l (i : Int)).Token :: sys (l.drop (i + 1))) := by
 unfold sys
 rw [List.drop_eq_getElem_cons h, List.filter_cons, gi_nat l i h]
 unfold nsp
 cases (l[i].Token.Kind == 13) <;> rfl
def cn (s : Str) : Nat := s.countP fun b => b == 110
theorem cn_app (a : Str) (b : UInt8) : cn (a ++ [b]) = cn a + cond (b == 110) 1 0 := by
 unfold cn
 rw [List.countP_append]
 cases h : (b == 110) <;> simp [List.countP_cons, h]
theorem rgb1_x (t : TToken) (u : Str) (l : List Int) (hu : u.length ≤ 1048576) (hl : l.length = cn u) : ∃ l', parseval_rgb_1 t u l = some (cond (t.Kind == 13) u (u ++ [chS (sy t)]), l') ∧ l'.length = cn (cond (t.Kind == 13) u (u ++ [chS (sy t)])) := by
 have hcu : cn u ≤ u.length := List.countP_le_length
 have no : ∀ b : UInt8, (b == 110) = false → l.length = cn (u ++ [b]) := fun b h => by rw [cn_app, h, hl]; rfl
 unfold parseval_rgb_1 sy
 have ck : ∀ {α : Type} (b : α), (ln u + ln [b] ≤ 9223372036854775807) := fun b => by unfold ln; simp only [List.length_cons, List.length_nil]; omega
 cases (t.Kind == 13)
 ·rw [cond_false, cond_false]
  cases (t.Kind == 10)
  ·rw [cond_false]
   cases (t.Kind == 18)
   ·rw [cond_false, lt_eq]
    cases (cond (t.Kind == 9) (t.Text == [47]) false)
    ·rw [cond_false, chk_pos (ck _)]
     exact ⟨_, rfl, no 120 rfl⟩
    ·rw [cond_true, chk_pos (ck _)]
     exact ⟨_, rfl, no 47 rfl⟩
   ·rw [cond_true, chk_pos (ck _)]
    exact ⟨_, rfl, no 44 rfl⟩
  ·rw [cond_true, chk_pos (ck _), chk_pos (by unfold ln; simp only [List.length_cons, List.length_nil]; omega), lt_eq]
   refine ⟨_, rfl, ?_⟩
   show (l ++ [t.Num]).length = cn (u ++ [110])
   rw [cn_app, List.length_append, hl]
   rfl
 ·exact ⟨_, rfl, hl⟩
theorem rgbp_L1 (m : Nat) (l : List TValue) (hl : l.length ≤ 1048576) : ∀ (kk i : Nat) (ns : List Int) (u : Str), l.length - i < kk → i ≤ l.length → u.length ≤ i → ns.length = cn u →
  ∃ ns', parseval_rgb_L1 m l kk (i : Int) ns u = some (u ++ (sys (l.drop i)).map chS, ns') ∧ ns'.length = cn (u ++ (sys (l.drop i)).map chS) := by
 intro kk
 induction kk with
 | zero => intro i ns u h; omega
 | succ kk ih =>
  intro i ns u h hi hu hn
  rw [parseval_rgb_L1]
  by_cases h1 : i < l.length
  ·obtain ⟨l', e1, e3⟩ := rgb1_x (gi l (i : Int)).Token u ns (by omega) hn
   rw [lt_dec h1, cond_true, chk_ix h1, e1, Option.bind_some, w64_ix (by omega), sys_drop h1]
   dsimp only
   obtain ⟨ns', h2, h3⟩ := ih (i + 1) l' _ (by omega) (by omega) (by cases ((gi l (i : Int)).Token.Kind == 13) <;> simp only [cond_true, cond_false, List.length_append, List.length_cons, List.length_nil] <;> omega) e3
   refine ⟨ns', h2.trans ?_, h3.trans ?_⟩
   ·cases ((gi l (i : Int)).Token.Kind == 13)
    ·rw [cond_false, cond_false, List.map_cons, List.append_assoc]; rfl
    ·rfl
   ·cases ((gi l (i : Int)).Token.Kind == 13)
    ·rw [cond_false, cond_false, List.map_cons, List.append_assoc]; rfl
    ·rfl
  ·rw [ge_dec (by omega), cond_false, List.drop_eq_nil_of_le (by omega)]
   exact ⟨ns, by simp [sys], by simpa [sys] using hn⟩
theorem rgb2_ex (u : List Int) (i : Nat) (hi : i < u.length) : ∃ x, parseval_rgb_2 (i : Int) u = some (wu8 x) := by
 unfold parseval_rgb_2
 rw [chk_ix hi, lt_eq]
 exact ⟨_, rfl⟩
theorem rgb_p (l : List TValue) (hl : l.length ≤ 1048576) : ∃ c, parseval_rgb FU l = some (c, rok (sys l)) := by
 obtain ⟨ns, h1, h2⟩ := rgbp_L1 FU l hl FU 0 [] [] (by unfold FU; omega) (Nat.zero_le _) (Nat.zero_le _) rfl
 rw [List.drop_zero, List.nil_append] at h1 h2
 have fin : ∀ q : List Int, q.length = 4 → ∃ c, (Option.bind (parseval_rgb_2 0 q) fun y90 =>
   Option.bind (parseval_rgb_2 1 q) fun y91 =>
   Option.bind (parseval_rgb_2 2 q) fun y92 =>
   chk (0 ≤ (3 : Int) ∧ (3 : Int) < ln q) <|
   lt (if (gi q (3 : Int)) < 1000 then (gi q (3 : Int)) else 1000) fun x94 =>
   lt (w64 (Int.tdiv (w64 ((if 0 < x94 then x94 else 0) * 255)) 1000)) fun x95 =>
   some ((TColor.mk y90 y91 y92 (wu8 x95)), true)) = some (c, true) := by
  intro q hq
  obtain ⟨a, ha⟩ := rgb2_ex q 0 (by omega)
  obtain ⟨b, hb⟩ := rgb2_ex q 1 (by omega)
  obtain ⟨c, hc⟩ := rgb2_ex q 2 (by omega)
  rw [show parseval_rgb_2 0 q = _ from ha, Option.bind_some, show parseval_rgb_2 1 q = _ from hb, Option.bind_some, show parseval_rgb_2 2 q = _ from hc, Option.bind_some, chk_pos ⟨by decide, by unfold ln; omega⟩, lt_eq, lt_eq]
  exact ⟨_, rfl⟩
 have e1 : ((sys l).map chS == [110, 110, 110]) = (sys l == [0, 0, 0]) := ch_eq (sys l) [0, 0, 0] (sys_le l) (by decide)
 have e2 : ((sys l).map chS == [110, 44, 110, 44, 110]) = (sys l == [0, 1, 0, 1, 0]) := ch_eq (sys l) [0, 1, 0, 1, 0] (sys_le l) (by decide)
 have e3 : ((sys l).map chS == [110, 110, 110, 47, 110]) = (sys l == [0, 0, 0, 2, 0]) := ch_eq (sys l) [0, 0, 0, 2, 0] (sys_le l) (by decide)
 have e4 : ((sys l).map chS == [110, 44, 110, 44, 110, 44, 110]) = (sys l == [0, 1, 0, 1, 0, 1, 0]) := ch_eq (sys l) [0, 1, 0, 1, 0, 1, 0] (sys_le l) (by decide)
 unfold parseval_rgb
 rw [show parseval_rgb_L1 FU l FU 0 [] [] = _ from h1, Option.bind_some]
 dsimp only
 rw [lt_eq, lt_eq, e1, e2, e3, e4]
 have three : (cond (sys l == [0, 0, 0]) (some (sys l == [0, 0, 0])) (some (sys l == [0, 1, 0, 1, 0])) : Option Bool) = some (sys l == [0, 0, 0] || sys l == [0, 1, 0, 1, 0]) := by
  cases (sys l == [0, 0, 0]) <;> rfl
 have four : (cond (sys l == [0, 0, 0, 2, 0]) (some (sys l == [0, 0, 0, 2, 0])) (some (sys l == [0, 1, 0, 1, 0, 1, 0])) : Option Bool) = some (sys l == [0, 0, 0, 2, 0] || sys l == [0, 1, 0, 1, 0, 1, 0]) := by
  cases (sys l == [0, 0, 0, 2, 0]) <;> rfl
 rw [three, Option.bind_some, four]
 unfold rok
 cases h3 : (sys l == [0, 0, 0] || sys l == [0, 1, 0, 1, 0])
 ·rw [cond_false, Option.bind_some, Bool.false_or]
  cases h4 : (sys l == [0, 0, 0, 2, 0])
  ·rw [Bool.false_or]
   cases h5 : (sys l == [0, 1, 0, 1, 0, 1, 0])
   ·exact ⟨_, rfl⟩
   ·rw [cond_true, Option.bind_some]
    exact fin ns (by rw [h2, eq_of_beq h5]; rfl)
  ·rw [Bool.true_or, cond_true, Option.bind_some]
   exact fin ns (by rw [h2, eq_of_beq h4]; rfl)
 ·have hl3 : ns.length = 3 := by
   rcases Bool.or_eq_true _ _ |>.mp h3 with h | h
   ·rw [h2, eq_of_beq h]; rfl
   ·rw [h2, eq_of_beq h]; rfl
  rw [cond_true, chk_pos (by unfold ln; simp only [List.length_cons, List.length_nil]; omega), Option.bind_some, Bool.true_or, Bool.true_or]
  exact fin (ns ++ [1000]) (by simp only [List.length_append, List.length_cons, List.length_nil]; omega)
theorem spaceless_x (l : List TValue) (hl : l.length ≤ 1048576) : r26_Spaceless FU l = some (l.filter nsp) := by
 have st : ∀ (kk i : Nat) (v : List TValue), l.length - i < kk → i ≤ l.length → v.length ≤ i → r26_Spaceless_L1 FU l kk v (i : Int) = some (v ++ (l.drop i).filter nsp) := by
  intro kk
  induction kk with
  | zero => intro i v h; omega
  | succ kk ih =>
   intro i v h hi hv
   rw [r26_Spaceless_L1]
   by_cases h1 : i < l.length
   ·rw [lt_dec h1, cond_true, chk_ix h1, List.drop_eq_getElem_cons h1, List.filter_cons, gi_nat l i h1]
    unfold bne
    have hn : nsp l[i] = !(l[i].Token.Kind == 13) := rfl
    rw [hn]
    cases (l[i].Token.Kind == 13)
    ·rw [Bool.not_false, cond_true, chk_pos (by unfold ln; simp only [List.length_cons, List.length_nil]; omega), lt_eq, Option.bind_some, w64_ix (by omega), ih (i + 1) _ (by omega) (by omega) (by simp only [List.length_append, List.length_cons, List.length_nil]; omega), List.append_assoc]
     rfl
    ·rw [Bool.not_true, cond_false, Option.bind_some, w64_ix (by omega), ih (i + 1) v (by omega) (by omega) (by omega)]
     rfl
   ·rw [ge_dec (by omega), cond_false, List.drop_eq_nil_of_le (by omega), List.filter_nil, List.append_nil]
 unfold r26_Spaceless
 rw [show r26_Spaceless_L1 FU l FU [] 0 = _ from st FU 0 [] (by unfold FU; omega) (Nat.zero_le _) (Nat.zero_le _)]
 rfl
def mach : List Nat → Nat → List Int → Int → Option (Nat × List Int × Int)
 | [], c, b, k => some (c, b, k)
 | s :: r, c, b, k => cond (s == 0) (mach r (c + 1) (cond (decide (0 < c)) (b ++ [k]) b) 0) (cond (cond (k != 0) true (c == 0)) none (cond (s == 1) (mach r c b 1) (cond (s == 2) (mach r c b 2) none)))
theorem rgbr_L1 (y : List TValue) (hy : y.length ≤ 1048576) : ∀ (kk i : Nat) (ns b : List Int) (k : Int), y.length - i < kk → i ≤ y.length → ns.length ≤ i → b.length ≤ i →
  (mach ((y.drop i).map fun v => sy v.Token) ns.length b k = none ∧ r26_rgb_L1 FU y kk ns b k (i : Int) = some (.inl (c0, false))) ∨
  (∃ c b' k' ns', mach ((y.drop i).map fun v => sy v.Token) ns.length b k = some (c, b', k') ∧ r26_rgb_L1 FU y kk ns b k (i : Int) = some (.inr (ns', b', k')) ∧ ns'.length = c) := by
 intro kk
 induction kk with
 | zero => intro i ns b k h; omega
 | succ kk ih =>
  intro i ns b k h hi hn hb
  rw [r26_rgb_L1]
  by_cases h1 : i < y.length
  ·rw [lt_dec h1, cond_true, chk_ix h1, List.drop_eq_getElem_cons h1, List.map_cons, mach, gi_nat y i h1]
   have hnz : decide (0 < (ln ns)) = decide (0 < ns.length) := by unfold ln; exact decide_eq_decide.2 (by omega)
   have hn0 : ((ln ns) == 0) = (ns.length == 0) := by
    cases ns with
    | nil => rfl
    | cons x r => rw [show ((x :: r).length == 0) = false from rfl]; exact beq_eq_false_iff_ne.2 (by unfold ln; simp only [List.length_cons]; omega)
   rw [hnz, hn0]
   unfold sy
   cases (y[i].Token.Kind == 10)
   ·simp only [cond_false]
    cases hq : (cond (k != 0) true (ns.length == 0))
    ·simp only [cond_false]
     cases (y[i].Token.Kind == 18)
     ·simp only [cond_false, lt_eq]
      cases (cond (y[i].Token.Kind == 9) (y[i].Token.Text == [47]) false)
      ·left
       exact ⟨rfl, rfl⟩
      ·simp only [cond_true, Option.bind_some, sumK]
       rw [w64_ix (by omega)]
       have := ih (i + 1) ns b 2 (by omega) (by omega) (by omega) (by omega)
       exact this
     ·simp only [cond_true, Option.bind_some, sumK]
      rw [w64_ix (by omega)]
      have := ih (i + 1) ns b 1 (by omega) (by omega) (by omega) (by omega)
      exact this
    ·left
     refine ⟨?_, rfl⟩
     cases (y[i].Token.Kind == 18) <;> cases (cond (y[i].Token.Kind == 9) (y[i].Token.Text == [47]) false) <;> rfl
   ·simp only [cond_true]
    have hb2 : (cond (decide (0 < ns.length)) (chk (ln b + ln ([k] : List Int) ≤ 1099511627776) (lt (b ++ ([k] : List Int)) fun q55 => some q55)) (some b) : Option (List Int)) = some (cond (decide (0 < ns.length)) (b ++ [k]) b) := by
     cases decide (0 < ns.length)
     ·rfl
     ·rw [cond_true, chk_pos (by unfold ln; simp only [List.length_cons, List.length_nil]; omega)]; rfl
    rw [hb2, Option.bind_some, chk_pos (by unfold ln; simp only [List.length_cons, List.length_nil]; omega), lt_eq, Option.bind_some]
    simp only [sumK]
    rw [w64_ix (by omega)]
    have := ih (i + 1) (ns ++ [y[i].Token.Num]) (cond (decide (0 < ns.length)) (b ++ [k]) b) 0 (by omega) (by omega) (by simp only [List.length_append, List.length_cons, List.length_nil]; omega) (by cases decide (0 < ns.length) <;> simp only [cond_true, cond_false, List.length_append, List.length_cons, List.length_nil] <;> omega)
    rw [show (ns ++ [y[i].Token.Num]).length = ns.length + 1 from by simp] at this
    exact this
  ·right
   rw [ge_dec (by omega), cond_false, List.drop_eq_nil_of_le (by omega)]
   exact ⟨_, _, _, _, rfl, rfl, rfl⟩
def sp (x : Int) : List Nat := cond (x == 0) [] [x.toNat]
def bl (b : List Int) : List Nat := b.flatMap fun x => sp x ++ [0]
def bld (c : Nat) (b : List Int) (k : Int) : List Nat := cond (c == 0) [] (0 :: bl b) ++ sp k
def inv (c : Nat) (b : List Int) (k : Int) : Prop := (b.length + 1 = c ∨ (c = 0 ∧ b = [] ∧ k = 0)) ∧ (∀ x ∈ b, x = 0 ∨ x = 1 ∨ x = 2) ∧ (k = 0 ∨ k = 1 ∨ k = 2)
theorem mach_inv : ∀ (s : List Nat) (c : Nat) (b : List Int) (k : Int), inv c b k → ∀ c' b' k', mach s c b k = some (c', b', k') → inv c' b' k' ∧ bld c b k ++ s = bld c' b' k'
 | [], c, b, k, hi, c', b', k', h => by
  cases h
  exact ⟨hi, List.append_nil _⟩
 | s :: r, c, b, k, hi, c', b', k', h => by
  rw [mach] at h
  cases h0 : (s == 0)
  ·rw [h0, cond_false] at h
   cases hq : (cond (k != 0) true (c == 0))
   ·rw [hq, cond_false] at h
    have hk : k = 0 := by
     by_cases e : k = 0
     ·exact e
     ·rw [show (k != 0) = true from bne_iff_ne.2 e] at hq; cases hq
    have hc : (c == 0) = false := by
     rw [hk] at hq
     exact hq
    have hcn : c ≠ 0 := beq_eq_false_iff_ne.1 hc
    have hbl : b.length + 1 = c := by
     rcases hi.1 with h | h
     ·exact h
     ·exact absurd h.1 hcn
    subst hk
    have go : ∀ q : Int, (q = 1 ∨ q = 2) → mach r c b q = some (c', b', k') → inv c' b' k' ∧ bld c b 0 ++ (q.toNat :: r) = bld c' b' k' := by
     intro q hq1 hm
     have := mach_inv r c b q ⟨Or.inl hbl, hi.2.1, Or.inr hq1⟩ c' b' k' hm
     refine ⟨this.1, ?_⟩
     rw [← this.2]
     have hs : sp q = [q.toNat] := by rcases hq1 with h | h <;> subst h <;> rfl
     unfold bld
     rw [hs, List.append_assoc, List.append_assoc]
     rfl
    cases h1 : (s == 1)
    ·rw [h1, cond_false] at h
     cases h2 : (s == 2)
     ·rw [h2] at h; cases h
     ·rw [h2, cond_true] at h
      have e : s = 2 := eq_of_beq h2
      subst e
      exact go 2 (Or.inr rfl) h
    ·rw [h1, cond_true] at h
     have e : s = 1 := eq_of_beq h1
     subst e
     exact go 1 (Or.inl rfl) h
   ·rw [hq] at h; cases h
  ·rw [h0, cond_true] at h
   have e : s = 0 := eq_of_beq h0
   subst e
   by_cases hc : 0 < c
   ·rw [decide_eq_true hc, cond_true] at h
    have hbl : b.length + 1 = c := by
     rcases hi.1 with h | h
     ·exact h
     ·omega
    have := mach_inv r (c + 1) (b ++ [k]) 0 ⟨Or.inl (by simp only [List.length_append, List.length_cons, List.length_nil]; omega), fun x hx => by
     rcases List.mem_append.1 hx with h | h
     ·exact hi.2.1 x h
     ·rw [List.mem_singleton.1 h]; exact hi.2.2, Or.inl rfl⟩ c' b' k' h
    refine ⟨this.1, ?_⟩
    rw [← this.2]
    unfold bld bl
    rw [show (c == 0) = false from beq_eq_false_iff_ne.2 (by omega), show (c + 1 == 0) = false from rfl, cond_false, cond_false, List.flatMap_append]
    simp [sp]
   ·have hc0 : c = 0 := by omega
    subst hc0
    rw [decide_eq_false hc, cond_false] at h
    obtain ⟨hb, hk⟩ : b = [] ∧ k = 0 := by
     rcases hi.1 with h | h
     ·omega
     ·exact h.2
    subst hb hk
    have := mach_inv r (0 + 1) [] 0 ⟨Or.inl rfl, fun x hx => (by cases hx), Or.inl rfl⟩ c' b' k' h
    exact ⟨this.1, by rw [← this.2]; rfl⟩
def acc (c : Nat) (b : List Int) (k : Int) : Bool := k == 0 && (cond (c == 3) (b == [0, 0] || b == [1, 1]) (cond (c == 4) (b == [0, 0, 2] || b == [1, 1, 1]) false))
theorem acc_rok (s : List Nat) : (mach s 0 [] 0 = none → rok s = false) ∧ ∀ c b k, mach s 0 [] 0 = some (c, b, k) → rok s = acc c b k := by
 have pats : ∀ s, rok s = true → mach s 0 [] 0 = some (3, [0, 0], 0) ∨ mach s 0 [] 0 = some (3, [1, 1], 0) ∨ mach s 0 [] 0 = some (4, [0, 0, 2], 0) ∨ mach s 0 [] 0 = some (4, [1, 1, 1], 0) := by
  intro s h
  unfold rok at h
  simp only [Bool.or_eq_true, beq_iff_eq] at h
  rcases h with ((h | h) | h) | h <;> subst h
  ·exact Or.inl rfl
  ·exact Or.inr (Or.inl rfl)
  ·exact Or.inr (Or.inr (Or.inl rfl))
  ·exact Or.inr (Or.inr (Or.inr rfl))
 refine ⟨fun h => ?_, fun c b k h => ?_⟩
 ·cases hr : rok s
  ·rfl
  ·rcases pats s hr with h1 | h1 | h1 | h1 <;> rw [h] at h1 <;> cases h1
 ·cases ha : acc c b k
  ·cases hr : rok s
   ·rfl
   ·rcases pats s hr with h1 | h1 | h1 | h1 <;> (rw [h] at h1; cases h1; cases ha)
  ·have hi := (mach_inv s 0 [] 0 ⟨Or.inr ⟨rfl, rfl, rfl⟩, fun x hx => (by cases hx), Or.inl rfl⟩ c b k h).2
   have hs : s = bld c b k := hi
   unfold acc at ha
   simp only [Bool.and_eq_true, beq_iff_eq] at ha
   obtain ⟨hk, ha⟩ := ha
   subst hk
   cases h3 : (c == 3)
   ·rw [h3, cond_false] at ha
    cases h4 : (c == 4)
    ·rw [h4] at ha; cases ha
    ·rw [h4, cond_true] at ha
     have e := eq_of_beq h4
     subst e
     simp only [Bool.or_eq_true, beq_iff_eq] at ha
     rcases ha with h | h <;> subst h <;> rw [hs] <;> rfl
   ·rw [h3, cond_true] at ha
    have e := eq_of_beq h3
    subst e
    simp only [Bool.or_eq_true, beq_iff_eq] at ha
    rcases ha with h | h <;> subst h <;> rw [hs] <;> rfl
theorem rgbr_L2 (z : List Int × List Int × Int) (hz : 3 ≤ z.1.length) : ∃ q, r26_rgb_L2 FU z FU 0 [0, 0, 0] = some q := by
 have st : ∀ (kk i : Nat) (q : List Int), 3 - i < kk → i ≤ 3 → ∃ q', r26_rgb_L2 FU z kk (i : Int) q = some q' := by
  intro kk
  induction kk with
  | zero => intro i q h; omega
  | succ kk ih =>
   intro i q h hi
   rw [r26_rgb_L2]
   by_cases h1 : i < 3
   ·rw [decide_eq_true (show (i : Int) < 3 by omega), cond_true, chk_ix (by omega), lt_eq, chk_pos ⟨by omega, by omega⟩, lt_eq, w64_ix (by omega)]
    exact ih (i + 1) _ (by omega) (by omega)
   ·rw [decide_eq_false (by omega), cond_false]
    exact ⟨_, rfl⟩
 exact st FU 0 _ (by unfold FU; omega) (by omega)
theorem two (b : List Int) (x y : Int) (h : b = [x, y]) (hx : x = 0 ∨ x = 1 ∨ x = 2) (hy : y = 0 ∨ y = 1 ∨ y = 2) : cond (x == 2) true (y != x) = !(b == [0, 0] || b == [1, 1]) := by
 subst h
 rcases hx with rfl | rfl | rfl <;> rcases hy with rfl | rfl | rfl <;> rfl
theorem rgb_tl (z : List Int × List Int × Int) (q : List Int) (hq : r26_rgb_L2 FU z FU 0 [0, 0, 0] = some q) (s : Int) : ∃ c, (Option.bind (r26_rgb_L2 FU z FU 0 [0, 0, 0]) fun (z157 : List Int) =>
  chk (0 ≤ (0 : Int) ∧ (0 : Int) < (3 : Int)) <| chk (0 ≤ (1 : Int) ∧ (1 : Int) < (3 : Int)) <| chk (0 ≤ (2 : Int) ∧ (2 : Int) < (3 : Int)) <|
  lt (wu8 (w64 (Int.tdiv (w64 (s * 255)) 1000))) fun x179 => some ((TColor.mk (gi z157 (0 : Int)) (gi z157 (1 : Int)) (gi z157 (2 : Int)) x179), true)) = some (c, true) := by
 rw [hq, Option.bind_some, chk_pos (by decide), chk_pos (by decide), chk_pos (by decide), lt_eq]
 exact ⟨_, rfl⟩
theorem rgb_r (l : List TValue) (hl : l.length ≤ 1048576) : ∃ c, r26_rgb FU l = some (c, rok (sys l)) := by
 have hfl : (l.filter nsp).length ≤ 1048576 := Nat.le_trans (List.length_filter_le _ _) hl
 have ha := acc_rok (sys l)
 unfold r26_rgb
 rw [spaceless_x l hl, Option.bind_some]
 rcases rgbr_L1 (l.filter nsp) hfl FU 0 [] [] 0 (by unfold FU; omega) (Nat.zero_le _) (Nat.zero_le _) (Nat.zero_le _) with ⟨hm, h⟩ | ⟨c, b, k, ns, hm, h, hc⟩
 ·rw [List.drop_zero] at hm
  rw [show r26_rgb_L1 FU (l.filter nsp) FU [] [] 0 0 = _ from h, ha.1 hm]
  exact ⟨_, rfl⟩
 ·rw [List.drop_zero] at hm
  rw [show r26_rgb_L1 FU (l.filter nsp) FU [] [] 0 0 = _ from h, ha.2 c b k hm, Option.bind_some]
  have hi := (mach_inv (sys l) 0 [] 0 ⟨Or.inr ⟨rfl, rfl, rfl⟩, fun x hx => (by cases hx), Or.inl rfl⟩ c b k hm).1
  clear h hm ha
  subst hc
  dsimp only [sumK]
  rw [lt_eq]
  by_cases hk : k = 0
  rotate_left
  ·unfold acc
   rw [show (k == 0) = false from beq_eq_false_iff_ne.2 hk, show (k != 0) = true from bne_iff_ne.2 hk]
   exact ⟨_, rfl⟩
  subst hk
  have n3 : ((ln ns) != 3) = !(ns.length == 3) := by
   by_cases e : ns.length = 3
   ·rw [show ((ns.length) == 3) = true from beq_iff_eq.2 e]; exact bne_eq_false_iff_eq.2 (by unfold ln; omega)
   ·rw [show ((ns.length) == 3) = false from beq_eq_false_iff_ne.2 e]; exact bne_iff_ne.2 (by unfold ln; omega)
  have n4 : ((ln ns) != 4) = !(ns.length == 4) := by
   by_cases e : ns.length = 4
   ·rw [show ((ns.length) == 4) = true from beq_iff_eq.2 e]; exact bne_eq_false_iff_eq.2 (by unfold ln; omega)
   ·rw [show ((ns.length) == 4) = false from beq_eq_false_iff_ne.2 e]; exact bne_iff_ne.2 (by unfold ln; omega)
  have n4e : ((ln ns) == 4) = (ns.length == 4) := by
   have := n4
   unfold bne at this
   cases h1 : ((ln ns) == 4) <;> cases h2 : (ns.length == 4) <;> rw [h1, h2] at this <;> first | rfl | cases this
  rw [n3, n4, n4e]
  unfold acc
  by_cases e3 : ns.length = 3
  ·have hb2 : b.length = 2 := by rcases hi.1 with h | h <;> omega
   obtain ⟨x, y, hb⟩ : ∃ x y, b = [x, y] := by
    match b, hb2 with
    | [x, y], _ => exact ⟨x, y, rfl⟩
   have hx := hi.2.1 x (by rw [hb]; simp)
   have hy := hi.2.1 y (by rw [hb]; simp)
   have ht := two b x y hb hx hy
   obtain ⟨q, hq⟩ := rgbr_L2 (ns, b, 0) (by dsimp only; omega)
   rw [e3]
   subst hb
   rw [show ((3 : Nat) == 3) = true from rfl, show ((3 : Nat) == 4) = false from rfl]
   simp only [Bool.not_true, Bool.not_false, cond_true, cond_false, bne_self_eq_false, beq_self_eq_true, Bool.true_and]
   rw [chk_pos (fun _ => ⟨by decide, by unfold ln; simp⟩), lt_eq, chk_pos (fun _ => ⟨by decide, by unfold ln; simp⟩), chk_pos (fun _ => ⟨by decide, by unfold ln; simp⟩), lt_eq]
   show ∃ c, cond (cond (x == 2) true (y != x)) _ _ = some (c, _)
   rw [ht]
   cases ([x, y] == [0, 0] || [x, y] == [1, 1])
   ·exact ⟨_, rfl⟩
   ·rw [Bool.not_true, cond_false, Option.bind_some]
    dsimp only
    rw [hq, Option.bind_some, chk_pos (by decide), chk_pos (by decide), chk_pos (by decide), lt_eq]
    exact ⟨_, rfl⟩
  by_cases e4 : ns.length = 4
  ·have hb2 : b.length = 3 := by rcases hi.1 with h | h <;> omega
   obtain ⟨x, y, z, hb⟩ : ∃ x y z, b = [x, y, z] := by
    match b, hb2 with
    | [x, y, z], _ => exact ⟨x, y, z, rfl⟩
   have hx := hi.2.1 x (by rw [hb]; simp)
   have hy := hi.2.1 y (by rw [hb]; simp)
   have hz := hi.2.1 z (by rw [hb]; simp)
   obtain ⟨q, hq⟩ := rgbr_L2 (ns, b, 0) (by dsimp only; omega)
   have hl4 : 3 < ln ns := by unfold ln; omega
   rw [e4]
   subst hb
   rw [show ((4 : Nat) == 3) = false from rfl, show ((4 : Nat) == 4) = true from rfl]
   simp only [Bool.not_true, Bool.not_false, cond_true, cond_false, bne_self_eq_false, beq_self_eq_true, Bool.true_and]
   rw [chk_pos (fun _ => ⟨by decide, by unfold ln; simp⟩), lt_eq, chk_pos (fun _ => ⟨by decide, by unfold ln; simp⟩), chk_pos (fun _ => ⟨by decide, by unfold ln; simp⟩), lt_eq, chk_pos ⟨by decide, by unfold ln; simp⟩, chk_pos (fun _ => ⟨by decide, by unfold ln; simp⟩), lt_eq, chk_pos (fun _ _ => ⟨by decide, by unfold ln; simp⟩), lt_eq, chk_pos ⟨by decide, hl4⟩]
   rcases hx with rfl | rfl | rfl <;> rcases hy with rfl | rfl | rfl <;> rcases hz with rfl | rfl | rfl <;> first | exact ⟨_, rfl⟩ | exact rgb_tl _ _ hq _
  ·rw [show (ns.length == 3) = false from beq_eq_false_iff_ne.2 e3, show (ns.length == 4) = false from beq_eq_false_iff_ne.2 e4]
   exact ⟨_, rfl⟩
end Go.Proofs.YtpgflfjmjppmeaaGreatDoor

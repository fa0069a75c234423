/-
 Numbers with what follows them: where they end, and what they are worth. No program in sight.
-/
import Derived.Test.YtemchjneoalnoaaGreatDoorA5
set_option linter.unusedVariables false
namespace Go.Proofs.YtemchjneoalnoaaGreatDoor
open Go Go.V
set_option maxRecDepth 100000
theorem tst_dm (p : UInt8 → Bool) (s : Str) (i : Nat) : tst p s i = match s.drop i with
  | [] => false
  | b :: _ => p b := by
 have h : s[i]? = (s.drop i)[0]? := by rw [List.getElem?_drop, Nat.add_zero]
 unfold tst
 rw [h]
 cases s.drop i <;> rfl
theorem dig_tw (s : Str) (i : Nat) : digS s i = (s.drop i).takeWhile isd := rfl
theorem take_dig (D R : Str) (hd : ∀ b ∈ D, isd b = true) (hR : R = [] ∨ ∃ r, R = 46 :: r) : (D ++ R).takeWhile isd = D := by
 rw [List.takeWhile_append_of_pos hd]
 rcases hR with rfl | ⟨r, rfl⟩
 ·rw [List.takeWhile_nil, List.append_nil]
 ·rw [List.takeWhile_cons_of_neg (by decide), List.append_nil]
structure Txt (s D1 D2 : Str) (sg : Bool) : Prop where
 num : numAt s 0 = true
 fin : (numEnd s).1 = s.length
 nd : NumD s D2 s.length
 d1 : dA s = D1
 neg : tst (isb 45) s 0 = sg
 ex : tst iee s s.length = false
theorem txt (sg D1 D2 R : Str) (hs : sg = [] ∨ sg = [45]) (h1 : D1 ≠ []) (hd1 : ∀ b ∈ D1, isd b = true) (hd2 : ∀ b ∈ D2, isd b = true) (hR : (R = [] ∧ D2 = []) ∨ (R = 46 :: D2 ∧ D2 ≠ [])) :
  Txt (sg ++ (D1 ++ R)) D1 D2 (!sg.isEmpty) := by
 obtain ⟨d, r, rfl⟩ : ∃ d r, D1 = d :: r := by
  cases D1 with
  | nil => exact absurd rfl h1
  | cons d r => exact ⟨d, r, rfl⟩
 have hd := hd1 d List.mem_cons_self
 obtain ⟨g1, g2, g3, _⟩ := isg_dig hd
 have hm : isb 45 d = false := by
  unfold isg at g1
  rw [Bool.or_eq_false_iff] at g1
  exact g1.2
 have hR' : R = [] ∨ ∃ r, R = 46 :: r := by
  rcases hR with ⟨h, _⟩ | ⟨h, _⟩
  ·exact Or.inl h
  ·exact Or.inr ⟨_, h⟩
 have hdr : (sg ++ (d :: r ++ R)).drop sg.length = d :: r ++ R := List.drop_left
 generalize hsv : sg ++ (d :: r ++ R) = s at *
 have hsk : skipS s 0 = sg.length := by
  unfold skipS
  rw [tst_dm, List.drop_zero, ← hsv]
  rcases hs with rfl | rfl
  ·show cond (isg d) _ _ = _
   rw [g1]; rfl
  ·rfl
 have hneg : tst (isb 45) s 0 = !sg.isEmpty := by
  rw [tst_dm, List.drop_zero, ← hsv]
  rcases hs with rfl | rfl
  ·exact hm
  ·rfl
 have hdA : dA s = d :: r := by
  unfold dA
  rw [hsk, dig_tw, hdr]
  exact take_dig _ _ hd1 hR'
 have hyA : yA s = sg.length + (d :: r).length := by unfold yA; rw [hsk, hdA]
 have hdy : s.drop (yA s) = R := by
  rw [hyA, ← List.drop_drop, hdr]
  exact List.drop_left
 have hlen : s.length = yA s + R.length := by
  rw [hyA, ← hsv]
  simp only [List.length_append]
  omega
 have hexl : tst iee s s.length = false := by rw [tst_dm, List.drop_length]
 have hnum : numAt s 0 = true := by
  unfold numAt
  dsimp only
  rw [hsk]
  have e1 : tst (isb 46) s sg.length = false := by rw [tst_dm, hdr]; exact g2
  have e2 : tst isd s sg.length = true := by rw [tst_dm, hdr]; exact hd
  rw [e1, cond_false, e2]
 have hy := endM_eq s (yA s) rfl
 rcases hR with ⟨rfl, rfl⟩ | ⟨rfl, hne⟩
 ·have ed : tst (isb 46) s (yA s) = false := by rw [tst_dm, hdy]
  have el : yA s = s.length := by rw [hlen]; rfl
  rw [ed] at hy
  simp only [cond_false] at hy
  refine ⟨hnum, ?_, ⟨Or.inr ⟨ed, rfl, el.symm⟩, Or.inr ⟨hexl, rfl⟩, by rw [hdA]; exact List.cons_ne_nil _ _, Nat.le_refl _⟩, hdA, hneg, hexl⟩
  unfold numEnd
  rw [hy, el]
  unfold endE
  rw [hexl]
  rfl
 ·have ed : tst (isb 46) s (yA s) = true := by rw [tst_dm, hdy]; rfl
  have hd2' : s.drop (yA s + 1) = D2 := by rw [← List.drop_drop, hdy]; rfl
  have eg : digS s (yA s + 1) = D2 := by
   rw [dig_tw, hd2']
   have := take_dig D2 [] hd2 (Or.inl rfl)
   rwa [List.append_nil] at this
  have et : tst isd s (yA s + 1) = true := by
   rw [tst_dm, hd2']
   cases D2 with
   | nil => exact absurd rfl hne
   | cons b q => exact hd2 b List.mem_cons_self
  have el : yA s + 1 + D2.length = s.length := by rw [hlen]; simp only [List.length_cons]; omega
  rw [ed, et, eg] at hy
  simp only [cond_true] at hy
  refine ⟨hnum, ?_, ⟨Or.inl ⟨ed, eg.symm, el.symm, hne⟩, Or.inr ⟨hexl, rfl⟩, by rw [hdA]; exact List.cons_ne_nil _ _, Nat.le_refl _⟩, hdA, hneg, hexl⟩
  unfold numEnd
  rw [hy, el]
  unfold endE
  rw [hexl]
  rfl
def valN (l : Str) (v : Nat) : Nat := l.foldl (fun v b => 10 * v + (b.toNat - 48)) v
theorem valN_app (a b : Str) (v : Nat) : valN (a ++ b) v = valN b (valN a v) := List.foldl_append ..
theorem valN_lin : ∀ (l : Str) (v : Nat), valN l v = v * 10 ^ l.length + valN l 0
 | [], v => by simp [valN]
 | b :: l, v => by
  have e1 : valN (b :: l) v = valN l (10 * v + (b.toNat - 48)) := rfl
  have e2 : valN (b :: l) 0 = valN l (10 * 0 + (b.toNat - 48)) := rfl
  rw [e1, e2, valN_lin l (10 * v + (b.toNat - 48)), valN_lin l (10 * 0 + (b.toNat - 48)), List.length_cons, Nat.pow_succ, Nat.add_mul, Nat.mul_comm 10 v, Nat.mul_assoc, Nat.mul_comm 10 (10 ^ l.length), Nat.mul_zero, Nat.zero_add]
  omega
theorem capf_val (cap : Nat) : ∀ (l : Str) (v w : Nat), v = min cap w → capf cap l v = min cap (valN l w)
 | [], _, _, e => e
 | b :: l, v, w, e => by
  rw [capf_cons]
  show _ = min cap (valN l (10 * w + (b.toNat - 48)))
  refine capf_val cap l _ _ ?_
  subst e
  omega
def stopB : Str → Bool
 | [] => true
 | c :: r => !(isd c) && (!(isb 46 c) && (!(iee c) || (match r with
  | [] => true
  | d :: _ => !(isg d) && !(isd d))))
theorem stop_not {R : Str} (h : stopB R = true) : R = [] ∨ ∃ c r, R = c :: r ∧ isd c = false ∧ isb 46 c = false ∧ (iee c = false ∨ r = [] ∨ ∃ d t, r = d :: t ∧ isg d = false ∧ isd d = false) := by
 cases R with
 | nil => exact Or.inl rfl
 | cons c r =>
  right
  simp only [stopB, Bool.and_eq_true, Bool.or_eq_true, Bool.not_eq_true'] at h
  refine ⟨c, r, rfl, h.1, h.2.1, ?_⟩
  rcases h.2.2 with h3 | h3
  ·exact Or.inl h3
  ·right
   cases r with
   | nil => exact Or.inl rfl
   | cons d t => exact Or.inr ⟨d, t, rfl, by simpa using h3⟩
theorem take_stop (D R : Str) (hd : ∀ b ∈ D, isd b = true) (hR : R = [] ∨ ∃ c r, R = c :: r ∧ isd c = false) : (D ++ R).takeWhile isd = D := by
 rw [List.takeWhile_append_of_pos hd]
 rcases hR with rfl | ⟨c, r, rfl, hc⟩
 ·rw [List.takeWhile_nil, List.append_nil]
 ·rw [List.takeWhile_cons_of_neg (by rw [hc]; decide), List.append_nil]
theorem end_stop (u : Str) (e : Nat) (wh : Bool) {R : Str} (hd : u.drop e = R) (h : stopB R = true) : endE u e wh = (e, wh) := by
 unfold endE
 rcases stop_not h with h1 | ⟨c, r, h1, hc1, hc2, hc3⟩
 ·have h0 : tst iee u e = false := tst_nil (by rw [hd, h1])
  dsimp only
  rw [h0]; rfl
 ·rw [h1] at hd
  rw [tst_at0 hd]
  rcases hc3 with h3 | h3 | ⟨d, t, h3, h4, h5⟩
  ·rw [h3]; rfl
  ·subst h3
   have e1 := drop_nx hd
   dsimp only
   rw [tst_nil e1, cond_false, tst_nil e1]
   cases iee c <;> rfl
  ·subst h3
   have e1 := drop_nx hd
   dsimp only
   rw [tst_at0 e1, h4, cond_false, tst_at0 e1, h5]
   cases iee c <;> rfl
theorem num_end (sg D1 D2 F R : Str) (hs : sg = [] ∨ sg = [45]) (h1 : D1 ≠ []) (hd1 : ∀ b ∈ D1, isd b = true) (hd2 : ∀ b ∈ D2, isd b = true) (hF : (F = [] ∧ D2 = []) ∨ (F = 46 :: D2 ∧ D2 ≠ [])) (hR : stopB R = true) (u : Str) (hu : u = sg ++ (D1 ++ (F ++ R))) :
  numAt u 0 = true ∧ numEnd u = ((sg ++ (D1 ++ F)).length, F.isEmpty) := by
 obtain ⟨d, r, rfl⟩ : ∃ d r, D1 = d :: r := by
  cases D1 with
  | nil => exact absurd rfl h1
  | cons d r => exact ⟨d, r, rfl⟩
 have hd := hd1 d List.mem_cons_self
 obtain ⟨g1, g2, g3, _⟩ := isg_dig hd
 have hdr : u.drop sg.length = d :: (r ++ (F ++ R)) := by rw [hu, List.drop_left]; rfl
 have hsk : skipS u 0 = sg.length := by
  unfold skipS
  rcases hs with rfl | rfl
  ·have h0 : u.drop 0 = d :: (r ++ (F ++ R)) := hdr
   rw [tst_at0 h0, g1]; rfl
  ·have h0 : u.drop 0 = 45 :: (d :: r ++ (F ++ R)) := by rw [hu]; rfl
   rw [tst_at0 h0]; rfl
 have hnum : numAt u 0 = true := by
  unfold numAt
  dsimp only
  rw [hsk, tst_at0 hdr, g2, cond_false, tst_at0 hdr, hd]
 refine ⟨hnum, ?_⟩
 have hFR : F ++ R = [] ∨ ∃ c q, F ++ R = c :: q ∧ isd c = false := by
  rcases hF with ⟨rfl, _⟩ | ⟨rfl, _⟩
  ·rcases stop_not hR with h | ⟨c, q, h, hc, _⟩
   ·exact Or.inl h
   ·exact Or.inr ⟨c, q, h, hc⟩
  ·exact Or.inr ⟨46, D2 ++ R, rfl, by decide⟩
 have hdg : digS u sg.length = d :: r := by
  rw [dig_tw, hdr]
  exact take_stop (d :: r) (F ++ R) hd1 hFR
 have hdy : u.drop (sg.length + (d :: r).length) = F ++ R := by
  rw [← List.drop_drop, hdr]
  exact List.drop_left (l₁ := d :: r)
 have hM : endM u = (sg.length + ((d :: r).length + F.length), F.isEmpty) := by
  unfold endM
  dsimp only
  rw [hsk, hdg]
  rcases hF with ⟨rfl, _⟩ | ⟨rfl, hne⟩
  ·have et : tst (isb 46) u (sg.length + (d :: r).length) = false := by
    rcases stop_not hR with h | ⟨c, q, h, _, hc, _⟩
    ·exact tst_nil (by rw [hdy, h]; rfl)
    ·rw [tst_at0 (by rw [hdy, h]; rfl)]; exact hc
   rw [et]
   rfl
  ·have et : tst (isb 46) u (sg.length + (d :: r).length) = true := by rw [tst_at0 hdy]; rfl
   have e1 := drop_nx hdy
   obtain ⟨b, q, rfl⟩ : ∃ b q, D2 = b :: q := by
    cases D2 with
    | nil => exact absurd rfl hne
    | cons b q => exact ⟨b, q, rfl⟩
   have e2 : tst isd u (sg.length + (d :: r).length + 1) = true := by rw [tst_at0 e1]; exact hd2 b List.mem_cons_self
   have e3 : digS u (sg.length + (d :: r).length + 1) = b :: q := by
    rw [dig_tw, e1]
    refine take_stop (b :: q) R hd2 ?_
    rcases stop_not hR with h | ⟨c, q, h, hc, _⟩
    ·exact Or.inl h
    ·exact Or.inr ⟨c, q, h, hc⟩
   rw [et, e2, e3]
   show ((sg.length + (d :: r).length + 1 + (b :: q).length, false) : Nat × Bool) = _
   congr 1
   simp only [List.length_cons]; omega
 unfold numEnd
 rw [hM]
 dsimp only
 have hde : u.drop (sg.length + ((d :: r).length + F.length)) = R := by
  rw [← Nat.add_assoc, ← List.drop_drop, hdy, List.drop_left]
 rw [end_stop u _ _ hde hR]
 congr 1
 simp only [List.length_append]
theorem worth_txt (sg D1 D2 F : Str) (hs : sg = [] ∨ sg = [45]) (h1 : D1 ≠ []) (hd1 : ∀ b ∈ D1, isd b = true) (hd2 : ∀ b ∈ D2, isd b = true) (hF : (F = [] ∧ D2 = []) ∨ (F = 46 :: D2 ∧ D2 ≠ [])) (h3 : D2.length ≤ 3)
  (q : Nat) (hq : q ≤ 1000000000000) (hv : valN D1 0 = q / 1000) (hf : valN D2 0 * 10 ^ (3 - D2.length) = q % 1000) (hl : (sg ++ (D1 ++ F)).length ≤ 200) :
  r02_Thousandths 300 (sg ++ (D1 ++ F)) = some (cond sg.isEmpty (q : Int) (-(q : Int))) := by
 have ht := txt sg D1 D2 F hs h1 hd1 hd2 hF
 have hr := thou_r 300 (sg ++ (D1 ++ F)) D2 _ ht.nd (by omega) (by omega)
 have e : expo (sg ++ (D1 ++ F)) (sg ++ (D1 ++ F)).length 10000 = 0 := by unfold expo; rw [ht.ex]; rfl
 rw [e, ht.d1, Int.add_zero] at hr
 rw [hr]
 congr 1
 have hval : valN (D1 ++ D2) 0 = q / 1000 * 10 ^ D2.length + valN D2 0 := by rw [valN_app, hv, valN_lin]
 have hten : valN (D1 ++ D2) 0 * 10 ^ (3 - D2.length) = q := by
  rw [hval, Nat.add_mul, Nat.mul_assoc, ← Nat.pow_add, show D2.length + (3 - D2.length) = 3 from by omega, hf]
  omega
 have hpos : 0 < 10 ^ (3 - D2.length) := Nat.pow_pos (by decide)
 have hle : valN (D1 ++ D2) 0 ≤ q := by
  have := Nat.le_mul_of_pos_right (valN (D1 ++ D2) 0) hpos
  omega
 have hDl : D2.length ≤ (D1 ++ D2).length := by rw [List.length_append]; omega
 generalize D1 ++ D2 = DD at *
 have hcap : capf 1000000000000 (DD.take ((DD.length : Int) + (3 - (D2.length : Int))).toNat) 0 = valN DD 0 := by
  rw [List.take_of_length_le (by omega), capf_val _ _ 0 0 (by simp)]
  omega
 have hmul : mulT (3 - (D2.length : Int)) (valN DD 0) = q := by
  unfold mulT
  split
  ·rename_i hc
   rcases hc with hc | hc
   ·have e : D2.length = 3 := by omega
    rw [e] at hten
    simpa using hten
   ·rw [hc] at hten ⊢
    omega
  ·have e : (3 - (D2.length : Int)).toNat = 3 - D2.length := by omega
   rw [e, hten]
   omega
 unfold worth
 rw [ht.neg, hcap, hmul]
 cases sg.isEmpty <;> rfl
structure NumT (N : Str) (n : Int) (whole : Bool) : Prop where
 fin : ∀ R u, stopB R = true → u = N ++ R → numAt u 0 = true ∧ numEnd u = (N.length, whole)
 val : r02_Thousandths 300 N = some n
 len : N.length ≤ 100
 head : ∃ c r, N = c :: r ∧ (isb 45 c = true ∨ isd c = true)
theorem numeric_at (N R : Str) (n : Int) (wh : Bool) (h : NumT N n wh) (s : Str) (hs : s.length ≤ 250) (i : Nat) (hi : i ≤ s.length) (hd : s.drop i = N ++ R) (hR : stopB R = true) :
  r02_NumberAt s (i : Int) = some true ∧ r02_NumberEnd 300 s (i : Int) = some (((i + N.length : Nat) : Int), wh) ∧ sub s (i : Int) ((i + N.length : Nat) : Int) = N := by
 obtain ⟨f1, f2⟩ := h.fin R (s.drop i) hR hd
 refine ⟨?_, ?_, ?_⟩
 ·rw [numberA_r s (by omega) i hi, numAt_drop, f1]
 ·rw [endA_r 300 s (by omega) (by omega) i hi, numEndA_drop, f2]
 ·unfold sub
  rw [Int.toNat_natCast, Int.toNat_natCast, hd, show i + N.length - i = N.length from by omega, List.take_left]
end Go.Proofs.YtemchjneoalnoaaGreatDoor

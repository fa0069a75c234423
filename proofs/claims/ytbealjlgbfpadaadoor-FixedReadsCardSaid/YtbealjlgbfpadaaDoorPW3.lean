/-
  Numbers written, third part: both writers print the same; what is printed is read as the number.
-/
import Derived.Test.YtbealjlgbfpadaaDoorPW
import Derived.Test.YtbealjlgbfpadaaDoorPW2
namespace Go.Proofs.YtbealjlgbfpadaaDoor
open Go Go.V
set_option maxRecDepth 100000
/-! ## The text of a number -/
theorem tst_drop (p : UInt8 → Bool) (s : Str) (i : Nat) : tst p s i = match s.drop i with
    | [] => false
    | b :: _ => p b := by
  have h : s[i]? = (s.drop i)[0]? := by rw [List.getElem?_drop, Nat.add_zero]
  unfold tst
  rw [h]
  cases s.drop i <;> rfl
theorem dig_drop (s : Str) (i : Nat) : digS s i = (s.drop i).takeWhile isd := rfl
theorem take_dig (D R : Str) (hd : ∀ b ∈ D, isd b = true) (hR : R = [] ∨ ∃ r, R = 46 :: r) : (D ++ R).takeWhile isd = D := by
  rw [List.takeWhile_append_of_pos hd]
  rcases hR with rfl | ⟨r, rfl⟩
  · rw [List.takeWhile_nil, List.append_nil]
  · rw [List.takeWhile_cons_of_neg (by decide), List.append_nil]
structure Txt (s D1 D2 : Str) (sg : Bool) : Prop where
  num : numAt s 0 = true
  fin : (numEnd s).1 = s.length
  nd : NumD s D2 s.length
  d1 : dA s = D1
  neg : tst (isb 45) s 0 = sg
  ex : tst iee s s.length = false
theorem txt (sg D1 D2 R : Str) (hs : sg = [] ∨ sg = [45]) (h1 : D1 ≠ []) (hd1 : ∀ b ∈ D1, isd b = true) (hd2 : ∀ b ∈ D2, isd b = true) (hR : (R = [] ∧ D2 = []) ∨ (R = 46 :: D2 ∧ D2 ≠ [])) :
    Txt (sg ++ (D1 ++ R)) D1 D2 (!sg.isEmpty) := by
  obtain ⟨d, r, rfl⟩ : ∃ d r, D1 = d :: r := by
    cases D1 with
    | nil => exact absurd rfl h1
    | cons d r => exact ⟨d, r, rfl⟩
  have hd := hd1 d List.mem_cons_self
  obtain ⟨g1, g2, g3, _⟩ := isg_dig hd
  have hm : isb 45 d = false := by
    unfold isg at g1
    rw [Bool.or_eq_false_iff] at g1
    exact g1.2
  have hR' : R = [] ∨ ∃ r, R = 46 :: r := by
    rcases hR with ⟨h, _⟩ | ⟨h, _⟩
    · exact Or.inl h
    · exact Or.inr ⟨_, h⟩
  have hdr : (sg ++ (d :: r ++ R)).drop sg.length = d :: r ++ R := List.drop_left
  generalize hsv : sg ++ (d :: r ++ R) = s at *
  have hsk : skipS s 0 = sg.length := by
    unfold skipS
    rw [tst_drop, List.drop_zero, ← hsv]
    rcases hs with rfl | rfl
    · show cond (isg d) _ _ = _
      rw [g1]; rfl
    · rfl
  have hneg : tst (isb 45) s 0 = !sg.isEmpty := by
    rw [tst_drop, List.drop_zero, ← hsv]
    rcases hs with rfl | rfl
    · exact hm
    · rfl
  have hdA : dA s = d :: r := by
    unfold dA
    rw [hsk, dig_drop, hdr]
    exact take_dig _ _ hd1 hR'
  have hyA : yA s = sg.length + (d :: r).length := by unfold yA; rw [hsk, hdA]
  have hdy : s.drop (yA s) = R := by
    rw [hyA, ← List.drop_drop, hdr]
    exact List.drop_left
  have hlen : s.length = yA s + R.length := by
    rw [hyA, ← hsv]
    simp only [List.length_append]
    omega
  have hexl : tst iee s s.length = false := by rw [tst_drop, List.drop_length]
  have hnum : numAt s 0 = true := by
    unfold numAt
    dsimp only
    rw [hsk]
    have e1 : tst (isb 46) s sg.length = false := by rw [tst_drop, hdr]; exact g2
    have e2 : tst isd s sg.length = true := by rw [tst_drop, hdr]; exact hd
    rw [e1, cond_false, e2]
  have hy := endM_eq s (yA s) rfl
  rcases hR with ⟨rfl, rfl⟩ | ⟨rfl, hne⟩
  · have ed : tst (isb 46) s (yA s) = false := by rw [tst_drop, hdy]
    have el : yA s = s.length := by rw [hlen]; rfl
    rw [ed] at hy
    simp only [cond_false] at hy
    refine ⟨hnum, ?_, ⟨Or.inr ⟨ed, rfl, el.symm⟩, Or.inr ⟨hexl, rfl⟩, by rw [hdA]; exact List.cons_ne_nil _ _, Nat.le_refl _⟩, hdA, hneg, hexl⟩
    unfold numEnd
    rw [hy, el]
    unfold endE
    rw [hexl]
    rfl
  · have ed : tst (isb 46) s (yA s) = true := by rw [tst_drop, hdy]; rfl
    have hd2' : s.drop (yA s + 1) = D2 := by rw [← List.drop_drop, hdy]; rfl
    have eg : digS s (yA s + 1) = D2 := by
      rw [dig_drop, hd2']
      have := take_dig D2 [] hd2 (Or.inl rfl)
      rwa [List.append_nil] at this
    have et : tst isd s (yA s + 1) = true := by
      rw [tst_drop, hd2']
      cases D2 with
      | nil => exact absurd rfl hne
      | cons b q => exact hd2 b List.mem_cons_self
    have el : yA s + 1 + D2.length = s.length := by rw [hlen]; simp only [List.length_cons]; omega
    rw [ed, et, eg] at hy
    simp only [cond_true] at hy
    refine ⟨hnum, ?_, ⟨Or.inl ⟨ed, eg.symm, el.symm, hne⟩, Or.inr ⟨hexl, rfl⟩, by rw [hdA]; exact List.cons_ne_nil _ _, Nat.le_refl _⟩, hdA, hneg, hexl⟩
    unfold numEnd
    rw [hy, el]
    unfold endE
    rw [hexl]
    rfl
theorem value_txt {s D1 D2 : Str} {sg : Bool} (h : Txt s D1 D2 sg) (hl : s.length ≤ 4000) (m : Nat) (hm : 4020 < m) : ∃ b, token_Value m s = some (worth s (D1 ++ D2) (3 - D2.length), b, 0) := by
  unfold token_Value
  rw [show decide (4000 < ln s) = false from decide_eq_false (by unfold ln; omega), cond_false, number_ok s (by omega), Option.bind_some, h.num, Bool.not_true, cond_false, end_t m s (by omega) (by omega), Option.bind_some, h.fin]
  rw [show decide (((s.length : Nat) : Int) < ln s) = false from ge_dec (Nat.le_refl _), cond_false, thou_t m s D2 s.length h.nd (by omega) (by omega), Option.bind_some, h.d1]
  refine ⟨(numEnd s).2, ?_⟩
  have e : expo s s.length 1048576 = 0 := by unfold expo; rw [h.ex]; rfl
  rw [e, Int.add_zero]
/-! ## What digits are worth -/
def valN (l : Str) (v : Nat) : Nat := l.foldl (fun v b => 10 * v + (b.toNat - 48)) v
theorem valN_app (a b : Str) (v : Nat) : valN (a ++ b) v = valN b (valN a v) := List.foldl_append ..
theorem valN_lin : ∀ (l : Str) (v : Nat), valN l v = v * 10 ^ l.length + valN l 0
  | [], v => by simp [valN]
  | b :: l, v => by
    have e1 : valN (b :: l) v = valN l (10 * v + (b.toNat - 48)) := rfl
    have e2 : valN (b :: l) 0 = valN l (10 * 0 + (b.toNat - 48)) := rfl
    rw [e1, e2, valN_lin l (10 * v + (b.toNat - 48)), valN_lin l (10 * 0 + (b.toNat - 48)), List.length_cons, Nat.pow_succ, Nat.add_mul, Nat.mul_comm 10 v, Nat.mul_assoc, Nat.mul_comm 10 (10 ^ l.length), Nat.mul_zero, Nat.zero_add]
    omega
theorem capf_val (cap : Nat) : ∀ (l : Str) (v w : Nat), v = min cap w → capf cap l v = min cap (valN l w)
  | [], _, _, e => e
  | b :: l, v, w, e => by
    rw [capf_cons]
    show _ = min cap (valN l (10 * w + (b.toNat - 48)))
    refine capf_val cap l _ _ ?_
    subst e
    omega
theorem dgt_b (q : Nat) : toB [dgt q] = [UInt8.ofNat (48 + q % 10)] := by
  have e : dgt q = ((48 + q % 10 : Nat) : Int) := by
    unfold dgt
    rw [tmod_pos (by omega), w64_id (by omega) (by omega), wu8_id (by omega) (by omega)]
    omega
  rw [e]
  show [UInt8.ofNat ((48 + q % 10 : Nat) : Int).toNat] = _
  rw [Int.toNat_natCast]
theorem dgt_n (q : Nat) : (UInt8.ofNat (48 + q % 10)).toNat = 48 + q % 10 := by
  rw [UInt8.toNat_ofNat']
  omega
theorem dec_dig : ∀ (k q : Nat), ∀ b ∈ decS k q, isd b = true
  | 0, _, b, h => by cases h
  | k + 1, q, b, h => by
    rw [decS, dgt_b] at h
    rcases List.mem_append.1 h with h | h
    · split at h
      · cases h
      · exact dec_dig k _ b h
    · rw [List.mem_singleton.1 h]
      unfold isd
      rw [dgt_n]
      simp only [Bool.and_eq_true, decide_eq_true_eq]
      omega
theorem dec_ne (k q : Nat) (h : 0 < k) : decS k q ≠ [] := by
  obtain ⟨k, rfl⟩ : ∃ j, k = j + 1 := ⟨k - 1, by omega⟩
  rw [decS, dgt_b]
  intro e
  have := (List.append_eq_nil_iff.1 e).2
  cases this
theorem dec_val : ∀ (k q : Nat), 0 < k → q < 10 ^ k → valN (decS k q) 0 = q
  | 0, _, h, _ => absurd h (by omega)
  | k + 1, q, _, hq => by
    rw [decS, dgt_b, valN_app]
    show 10 * valN _ 0 + ((UInt8.ofNat (48 + q % 10)).toNat - 48) = q
    rw [dgt_n]
    by_cases h : q < 10
    · rw [if_pos h]
      show 10 * 0 + _ = q
      omega
    · rw [if_neg h]
      have hk0 : 0 < k := by
        rcases Nat.eq_zero_or_pos k with h0 | h0
        · subst h0; omega
        · exact h0
      rw [Nat.pow_succ] at hq
      rw [dec_val k (q / 10) hk0 (Nat.div_lt_of_lt_mul (by rw [Nat.mul_comm]; exact hq))]
      omega
/-- The fraction's text: nothing, or a point and digits that are worth it. -/
theorem frac_val : ((List.range 1000).all fun f => match fracS f with
    | [] => Nat.beq f 0
    | b :: D2 => !(Nat.beq f 0) && (b == 46) && (!D2.isEmpty && D2.all isd && Nat.ble D2.length 3 && Nat.beq (valN D2 0 * 10 ^ (3 - D2.length)) f)) = true := by kernel_rfl

theorem frac_at (f : Nat) (hf : f < 1000) : ∃ (i : Nat) (l : List Int), fixed_Write_L1 5000 5000 (f : Int) 0 20 [0, 0, 0, 0, 0, 0, 0, 0, 0, 0, 0, 0, 0, 0, 0, 0, 0, 0, 0, 0] = some ((i : Int), l) ∧ 16 ≤ i ∧ i ≤ 20 ∧ l.length = 20 ∧ toB (l.drop i) = fracS f ∧
    (f = 0 → fracS f = []) ∧ (f ≠ 0 → r06_Text_L1 5000 5000 [46] (f : Int) 100 = some (fracS f)) := by
  have h1 := (List.all_eq_true.1 frac_all) f (List.mem_range.2 hf)
  have h2 := (List.all_eq_true.1 frac_same) f (List.mem_range.2 hf)
  unfold fracS
  cases hb : fracB f with
  | none => rw [hb] at h1; cases h1
  | some p =>
    obtain ⟨i, l⟩ := p
    rw [hb] at h1 h2
    dsimp only at h1 h2 ⊢
    simp only [Bool.and_eq_true, decide_eq_true_eq] at h1
    obtain ⟨⟨h3, h4⟩, h5⟩ := h1
    refine ⟨i.toNat, l, ?_, by omega, by omega, h5, rfl, ?_, ?_⟩
    · unfold fracB at hb
      rw [hb, show ((i.toNat : Nat) : Int) = i from by omega]
    · intro e
      cases ht : r06_Text_L1 5000 5000 [46] (f : Int) 100 with
      | none => rw [ht] at h2; cases h2
      | some t =>
        rw [ht] at h2
        dsimp only at h2
        rw [e] at h2
        exact eq_of_beq h2
    · intro e
      cases ht : r06_Text_L1 5000 5000 [46] (f : Int) 100 with
      | none => rw [ht] at h2; cases h2
      | some t =>
        rw [ht] at h2
        dsimp only at h2
        have : Nat.beq f 0 = false := by
          cases f with
          | zero => exact absurd rfl e
          | succ f => rfl
        rw [this, cond_false] at h2
        rw [eq_of_beq h2]
theorem frac_form (f : Nat) (hf : f < 1000) : (fracS f = [] ∧ f = 0) ∨ ∃ D2, fracS f = 46 :: D2 ∧ D2 ≠ [] ∧ (∀ b ∈ D2, isd b = true) ∧ D2.length ≤ 3 ∧ valN D2 0 * 10 ^ (3 - D2.length) = f := by
  have h := (List.all_eq_true.1 frac_val) f (List.mem_range.2 hf)
  cases hs : fracS f with
  | nil => rw [hs] at h; exact Or.inl ⟨rfl, Nat.eq_of_beq_eq_true h⟩
  | cons b D2 =>
    rw [hs] at h
    dsimp only at h
    simp only [Bool.and_eq_true] at h
    obtain ⟨⟨_, h2⟩, ⟨⟨h3, h4⟩, h5⟩, h6⟩ := h
    refine Or.inr ⟨D2, by rw [eq_of_beq h2], ?_, fun x hx => List.all_eq_true.1 h4 x hx, Nat.le_of_ble_eq_true h5, Nat.eq_of_beq_eq_true h6⟩
    intro e
    rw [e] at h3
    cases h3
/-! ## Both writers -/
def textN (q : Nat) : Str := decS 10 (q / 1000) ++ fracS (q % 1000)
def signS (n : Int) : Str := cond (decide (n < 0)) [45] []
def txtI (n : Int) : Str := signS n ++ textN n.natAbs
theorem tdiv1000 (q : Nat) (h : q ≤ 1000000000000) : w64 (Int.tdiv (q : Int) 1000) = ((q / 1000 : Nat) : Int) := by
  rw [tdiv_pos (by omega), w64_id (by omega) (by omega)]
  omega
theorem tmod1000 (q : Nat) : Int.tmod (q : Int) 1000 = ((q % 1000 : Nat) : Int) := by
  rw [tmod_pos (by omega)]
  omega
theorem write_pos (q : Nat) (hq : q ≤ 1000000000000) : ∃ (i' : Nat) (l' : List Int), 6 ≤ i' ∧ i' < 20 ∧ l'.length = 20 ∧ toB (l'.drop i') = textN q ∧
    ∀ {β : Type} (F : Int × List Int → Option β), (Option.bind (fixed_Write_L1 5000 5000 (Int.tmod (q : Int) 1000) 0 20 [0, 0, 0, 0, 0, 0, 0, 0, 0, 0, 0, 0, 0, 0, 0, 0, 0, 0, 0, 0]) fun z35 =>
      Option.bind (fixed_Write_L2 5000 5000 (w64 (Int.tdiv (q : Int) 1000)) z35.1 z35.2) F) = F ((i' : Int), l') := by
  obtain ⟨i, l, e1, h1, h2, h3, h4, _, _⟩ := frac_at (q % 1000) (Nat.mod_lt _ (by decide))
  have hk : q / 1000 < 10 ^ 10 := by
    have : (10 : Nat) ^ 10 = 10000000000 := by decide
    omega
  obtain ⟨i', l', k1, k2, k3, k4⟩ := whole_t 5000 4990 10 (q / 1000) i l (by decide) hk (by omega) (by omega) h2 h3
  have hl := decS_len 10 (q / 1000)
  have hn : 0 < (decS 10 (q / 1000)).length := List.length_pos_iff.2 (dec_ne 10 _ (by decide))
  refine ⟨i', l', by omega, by omega, k3, by rw [k4, h4]; rfl, fun F => ?_⟩
  rw [tmod1000, e1, Option.bind_some, tdiv1000 q hq]
  have k5 : fixed_Write_L2 5000 5000 ((q / 1000 : Nat) : Int) (i : Int) l = some ((i' : Int), l') := k1
  dsimp only
  rw [k5, Option.bind_some]
def inR (n : Int) : Prop := -1000000000000 ≤ n ∧ n ≤ 1000000000000
theorem check1_ok (n : Int) : fixed_check 5000 [n] = some (cond (cond (decide (n < -1000000000000)) true (decide (1000000000000 < n))) 8 0) := by
  unfold fixed_check
  rw [fixed_check_L1, show decide ((0 : Int) < ln [n]) = true from rfl, cond_true, chk_pos (show 0 ≤ (0 : Int) ∧ (0 : Int) < ln [n] from ⟨Int.le_refl _, show (0 : Int) < 1 from by decide⟩), show gi [n] 0 = n from rfl, lt_eq]
  cases cond (decide (n < -1000000000000)) true (decide (1000000000000 < n))
  · rw [cond_false, show w64 (0 + 1) = 1 from by decide, fixed_check_L1, show decide ((1 : Int) < ln [n]) = false from rfl, cond_false]
    rfl
  · rfl
theorem check_in {n : Int} (h : inR n) : fixed_check 5000 [n] = some 0 := by
  rw [check1_ok, decide_eq_false (by unfold inR at h; omega), cond_false, decide_eq_false (by unfold inR at h; omega)]
  rfl
theorem check_out {n : Int} (h : ¬ inR n) : fixed_check 5000 [n] = some 8 := by
  rw [check1_ok]
  unfold inR at h
  by_cases h1 : n < -1000000000000
  · rw [decide_eq_true h1]; rfl
  · rw [decide_eq_false h1, cond_false, decide_eq_true (show 1000000000000 < n from by omega)]
    rfl
theorem is_in {n : Int} (h : inR n) : r06_Is n = true := by
  unfold r06_Is
  rw [lt_eq, decide_eq_true h.1, cond_true, decide_eq_true h.2]
theorem is_out {n : Int} (h : ¬ inR n) : r06_Is n = false := by
  unfold r06_Is
  rw [lt_eq]
  unfold inR at h
  by_cases h1 : -1000000000000 ≤ n
  · rw [decide_eq_true h1, cond_true, decide_eq_false (by omega)]
  · rw [decide_eq_false h1]; rfl
theorem write_t {n : Int} (h : inR n) : fixed_Write 5000 n = some (txtI n, 0) := by
  obtain ⟨i, l, h1, h2, h3, h4, h5⟩ := write_pos n.natAbs (by unfold inR at h; omega)
  unfold fixed_Write
  rw [check_in h, Option.bind_some, show ((0 : Int) != 0) = false from rfl, cond_false]
  unfold txtI signS
  cases hn : decide (n < 0)
  · have hn' := of_decide_eq_false hn
    simp only [cond_false]
    rw [Option.bind_some]
    have e : n = ((n.natAbs : Nat) : Int) := by omega
    rw [show fixed_Write_L1 5000 5000 (Int.tmod n 1000) = fixed_Write_L1 5000 5000 (Int.tmod ((n.natAbs : Nat) : Int) 1000) from by rw [← e], show w64 (Int.tdiv n 1000) = w64 (Int.tdiv ((n.natAbs : Nat) : Int) 1000) from by rw [← e]]
    rw [h5, Option.bind_some, chk_pos (by omega), Int.toNat_natCast, h4, List.nil_append]
  · have hn' := of_decide_eq_true hn
    simp only [cond_true]
    rw [Option.bind_some, show w64 (0 - n) = ((n.natAbs : Nat) : Int) from by rw [w64_id (by unfold inR at h; omega) (by unfold inR at h; omega)]; omega]
    obtain ⟨j, rfl⟩ : ∃ j, i = j + 1 := ⟨i - 1, by omega⟩
    rw [h5]
    dsimp only
    rw [write1 45 j l (by omega), Option.bind_some, Option.bind_some, chk_pos (by dsimp only; omega)]
    dsimp only
    rw [Int.toNat_natCast, setDrop l j 45 (by omega), toB_cons, h4]
    rfl
theorem digits_t (q : Nat) (hq : q ≤ 1000000000000) : r06_digits 5000 ((q / 1000 : Nat) : Int) = some (decS 10 (q / 1000)) := by
  have hk : q / 1000 < 10 ^ 10 := by
    have : (10 : Nat) ^ 10 = 10000000000 := by decide
    omega
  exact dig_r 5000 4990 10 (q / 1000) (by decide) hk (by omega) (by decide)
theorem text_succ (k : Nat) (n : Int) : r06_Text_r 5000 (k + 1) n = cond (decide (n < 0)) (Option.bind ((r06_Text_r 5000 k) (w64 (0 - n))) fun y5 => chk (ln [45] + ln y5 ≤ 9223372036854775807) (some ([45] ++ y5))) (
    Option.bind (r06_digits 5000 (w64 (Int.tdiv n 1000))) fun y9 => cond ((Int.tmod n 1000) == 0) (some y9) (chk (ln y9 + ln [46] ≤ 9223372036854775807) (Option.bind (r06_Text_L1 5000 5000 (y9 ++ [46]) (Int.tmod n 1000) 100) fun (z21 : Str) => some z21))) := by
  rw [r06_Text_r]
theorem text_pos (k q : Nat) (hq : q ≤ 1000000000000) : r06_Text_r 5000 (k + 1) (q : Int) = some (textN q) := by
  obtain ⟨_, _, _, _, _, _, _, f1, f2⟩ := frac_at (q % 1000) (Nat.mod_lt _ (by decide))
  have hl := decS_len 10 (q / 1000)
  rw [text_succ, decide_eq_false (show ¬ (q : Int) < 0 by omega), cond_false, tdiv1000 q hq, digits_t q hq, Option.bind_some, tmod1000]
  unfold textN
  by_cases hf : q % 1000 = 0
  · rw [f1 hf, hf, List.append_nil]
    rfl
  · rw [show (((q % 1000 : Nat) : Int) == 0) = false from beq_eq_false_iff_ne.2 (by omega), cond_false, chk_pos (by unfold ln; simp only [List.length_cons, List.length_nil]; omega)]
    rw [textL_app 5000 (decS 10 (q / 1000)) 5000 [46] ((q % 1000 : Nat) : Int) 100 _ (f2 hf) ?_]
    · rfl
    · rcases frac_form (q % 1000) (Nat.mod_lt _ (by decide)) with ⟨e, _⟩ | ⟨D2, e, _, _, e3, _⟩
      · rw [e]; simp only [List.length_nil]; omega
      · rw [e, List.length_cons]; omega
theorem txtN_len (q : Nat) : (textN q).length ≤ 14 ∧ 1 ≤ (textN q).length := by
  unfold textN
  have hl := decS_len 10 (q / 1000)
  have hn : 0 < (decS 10 (q / 1000)).length := List.length_pos_iff.2 (dec_ne 10 _ (by decide))
  rw [List.length_append]
  rcases frac_form (q % 1000) (Nat.mod_lt _ (by decide)) with ⟨e, _⟩ | ⟨D2, e, _, _, e3, _⟩
  · rw [e]; simp only [List.length_nil]; omega
  · rw [e, List.length_cons]; omega
theorem write_r {n : Int} (h : inR n) : r06_Write 5000 n = some (txtI n, 0) := by
  unfold r06_Write r06_Text
  rw [is_in h, Bool.not_true, cond_false]
  unfold txtI signS
  cases hn : decide (n < 0)
  · have hn' := of_decide_eq_false hn
    have e : n = ((n.natAbs : Nat) : Int) := by omega
    rw [e, text_pos 4999 n.natAbs (by unfold inR at h; omega), Option.bind_some, cond_false, List.nil_append, ← e]
  · have hl := txtN_len n.natAbs
    rw [text_succ 4999, hn, cond_true, show w64 (0 - n) = ((n.natAbs : Nat) : Int) from by have := of_decide_eq_true hn; rw [w64_id (by unfold inR at h; omega) (by unfold inR at h; omega)]; omega]
    rw [text_pos 4998 n.natAbs (by unfold inR at h; omega), Option.bind_some, chk_pos (by unfold ln; simp only [List.length_cons, List.length_nil]; omega), Option.bind_some, cond_true]
theorem write_out {n : Int} (h : ¬ inR n) : fixed_Write 5000 n = some ([], 8) ∧ r06_Write 5000 n = some ([], 8) := by
  constructor
  · unfold fixed_Write
    rw [check_out h, Option.bind_some]
    rfl
  · unfold r06_Write
    rw [is_out h]
    rfl
/-! ## Read back -/
theorem read_txt {n : Int} (h : inR n) : ∃ b, token_Value 5000 (txtI n) = some (n, b, 0) := by
  have hq : n.natAbs ≤ 1000000000000 := by unfold inR at h; omega
  generalize hqv : n.natAbs = q at hq
  have hd := dec_dig 10 (q / 1000)
  have hne := dec_ne 10 (q / 1000) (by decide)
  have hk : q / 1000 < 10 ^ 10 := by
    have : (10 : Nat) ^ 10 = 10000000000 := by decide
    omega
  have hv := dec_val 10 (q / 1000) (by decide) hk
  have hl := txtN_len q
  have hsg : signS n = [] ∨ signS n = [45] := by unfold signS; cases decide (n < 0) <;> simp
  have hse : (!(signS n).isEmpty) = decide (n < 0) := by unfold signS; cases decide (n < 0) <;> rfl
  have hlen : (signS n).length ≤ 1 := by rcases hsg with e | e <;> rw [e] <;> decide
  have hw : ∀ v : Nat, v = q → (cond (decide (n < 0)) (-((v : Nat) : Int)) ((v : Nat) : Int)) = n := by
    intro v hv
    subst hv
    by_cases hn : n < 0
    · rw [decide_eq_true hn, cond_true]; omega
    · rw [decide_eq_false hn, cond_false]; omega
  have hmain : ∀ D2 R : Str, textN q = decS 10 (q / 1000) ++ R → (∀ b ∈ D2, isd b = true) → ((R = [] ∧ D2 = []) ∨ (R = 46 :: D2 ∧ D2 ≠ [])) → D2.length ≤ 3 → valN D2 0 * 10 ^ (3 - D2.length) = q % 1000 →
      ∃ b, token_Value 5000 (txtI n) = some (n, b, 0) := by
    intro D2 R hR hd2 hRR h3 hvv
    have ht := txt (signS n) (decS 10 (q / 1000)) D2 R hsg hne hd hd2 hRR
    have htx : txtI n = signS n ++ (decS 10 (q / 1000) ++ R) := by unfold txtI; rw [hqv, hR]
    have hln : (signS n ++ (decS 10 (q / 1000) ++ R)).length ≤ 4000 := by rw [← htx]; unfold txtI; rw [List.length_append, hqv]; omega
    obtain ⟨b, hb⟩ := value_txt ht hln 5000 (by decide)
    refine ⟨b, ?_⟩
    rw [htx, hb]
    have hval : valN (decS 10 (q / 1000) ++ D2) 0 = q / 1000 * 10 ^ D2.length + valN D2 0 := by rw [valN_app, hv, valN_lin]
    have hten : valN (decS 10 (q / 1000) ++ D2) 0 * 10 ^ (3 - D2.length) = q := by
      rw [hval, Nat.add_mul, Nat.mul_assoc, ← Nat.pow_add, show D2.length + (3 - D2.length) = 3 from by omega, hvv]
      omega
    have hpos : 0 < 10 ^ (3 - D2.length) := Nat.pow_pos (by decide)
    have hle : valN (decS 10 (q / 1000) ++ D2) 0 ≤ q := by
      have := Nat.le_mul_of_pos_right (valN (decS 10 (q / 1000) ++ D2) 0) hpos
      omega
    generalize hDD : decS 10 (q / 1000) ++ D2 = DD at *
    have hDl : D2.length ≤ DD.length := by rw [← hDD, List.length_append]; omega
    have hcap : capf 1000000000000 (DD.take ((DD.length : Int) + (3 - (D2.length : Int))).toNat) 0 = valN DD 0 := by
      rw [List.take_of_length_le (by omega), capf_val _ _ 0 0 (by simp)]
      omega
    have hmul : mulT (3 - (D2.length : Int)) (valN DD 0) = q := by
      unfold mulT
      split
      · rename_i hc
        rcases hc with hc | hc
        · have e : D2.length = 3 := by omega
          rw [e] at hten
          simpa using hten
        · rw [hc] at hten ⊢
          omega
      · have e : (3 - (D2.length : Int)).toNat = 3 - D2.length := by omega
        rw [e, hten]
        omega
    unfold worth
    rw [ht.neg, hse, hcap, hmul, hw q rfl]
  rcases frac_form (q % 1000) (Nat.mod_lt _ (by decide)) with ⟨e, e0⟩ | ⟨D2, e, e1, e2, e3, e4⟩
  · exact hmain [] [] (by unfold textN; rw [e]) (fun _ h => by cases h) (Or.inl ⟨rfl, rfl⟩) (by decide) (by rw [e0]; rfl)
  · exact hmain D2 (46 :: D2) (by unfold textN; rw [e]) e2 (Or.inr ⟨rfl, e1⟩) e3 e4
theorem txtI_len (n : Int) : 1 ≤ (txtI n).length ∧ (txtI n).length ≤ 15 := by
  unfold txtI
  have hl := txtN_len n.natAbs
  have : (signS n).length ≤ 1 := by unfold signS; cases decide (n < 0) <;> decide
  rw [List.length_append]
  omega
end Go.Proofs.YtbealjlgbfpadaaDoor

/-
  AnswerTexts: the model comes to 'true' for every two logs and every text. No program in sight.
-/
import Derived.Test.YtipafpkdkhnjmaaGreatDoorP40Back
set_option linter.unusedVariables false
set_option maxRecDepth 100000
namespace Go.Proofs.YtipafpkdkhnjmaaGreatDoor
open Go Go.V Go.RowKit
/-! ## Texts -/
theorem rtext_L1 (l : List TAnswer) (hl : l.length ≤ 65) (ha : ∀ x ∈ l, Nb x) (ho : ∀ x ∈ l, okA x = true) : ∀ (kk i : Nat) (acc : Str), l.length - i < kk → i ≤ l.length → acc.length ≤ i * 90001 → r40_Text_L1 91000 l kk acc (i : Int) = some (acc ++ textS (l.drop i)) := by
  intro kk
  induction kk with
  | zero => intro i acc h; omega
  | succ kk ih =>
    intro i acc hk hi hac
    rw [r40_Text_L1]
    by_cases hlt : i < l.length
    · have hm := List.getElem_mem hlt
      have hx := ha _ hm
      have hs := shown_len l[i] hx.i (ho _ hm)
      rw [lt_dec hlt, cond_true, chk_ix hlt, gi_nat l i hlt, (rshow_eq 91000 (by decide) (by decide) l[i] hx.i).1, Option.bind_some, chk_pos (by unfold ln; simp only [List.length_cons, List.length_nil]; omega), chk_pos (by unfold ln; simp only [List.length_append, List.length_cons, List.length_nil]; omega), w64_ix (by omega), ih (i + 1) _ (by omega) hlt (by simp only [List.length_append, List.length_cons, List.length_nil]; omega), List.drop_eq_getElem_cons hlt]
      show _ = some (acc ++ ((shown l[i] ++ [10]) ++ textS (l.drop (i + 1))))
      rw [List.append_assoc]
    · rw [ge_dec (by omega), cond_false, List.drop_eq_nil_of_le (by omega)]
      show some acc = some (acc ++ [])
      rw [List.append_nil]
theorem texts_eq (l : List TAnswer) (hl : l.length ≤ 65) (ha : ∀ x ∈ l, Nb x) : ∃ r, answer_Text 91000 l = some r ∧ r40_Text 91000 l = some r := by
  by_cases hL : logE l = 0
  · obtain ⟨h60, hok⟩ := logE_0 hL
    refine ⟨_, text_eq l h60 ha hok, ?_⟩
    have h := rtext_L1 l hl ha hok 91000 0 [] (by omega) (by omega) (by simp)
    rw [List.drop_zero, List.nil_append] at h
    unfold r40_Text
    rw [log_eq l hl ha, hL, Option.bind_some, show ((0 : Int) != 0) = false from rfl, cond_false, show r40_Text_L1 91000 l 91000 [] 0 = _ from h]
    rfl
  · refine ⟨([], logE l), ?_, ?_⟩
    · unfold answer_Text
      rw [check2_eq l hl ha, Option.bind_some, show (logE l != 0) = true from bne_iff_ne.2 hL, cond_true]
    · unfold r40_Text
      rw [log_eq l hl ha, Option.bind_some, show (logE l != 0) = true from bne_iff_ne.2 hL, cond_true]
/-! ## What is read -/
theorem spS_back : ∀ (r cur : Str), cur ++ r = ((spS cur r).1.flatMap fun x => x ++ [10]) ++ (spS cur r).2
  | [], cur => by rw [spS, List.append_nil]; rfl
  | c :: r, cur => by
    rw [spS]
    cases hc : (c == 10)
    · rw [cond_false, ← spS_back r (cur ++ [c]), List.append_assoc]
      rfl
    · have e : c = 10 := eq_of_beq hc
      have h := spS_back r []
      rw [List.nil_append] at h
      rw [cond_true, List.flatMap_cons, List.append_assoc, ← h, e, List.append_assoc]
      rfl
theorem mem_fm : ∀ (l : List Str) (x : Str), x ∈ l → x.length ≤ (l.flatMap fun x => x ++ [10]).length
  | y :: l, x, h => by
    rw [List.flatMap_cons, List.length_append, List.length_append]
    rcases List.mem_cons.1 h with rfl | h
    · omega
    · have := mem_fm l x h
      omega
theorem rr_L1 (L : List Str) (b : Bool) (hl : L.length ≤ 60) (hx : ∀ x ∈ L, x.length ≤ 90000) : ∀ (kk i : Nat) (acc : List TAnswer), L.length - i < kk → i ≤ L.length → acc.length ≤ i →
    r40_ReadText_L1 91000 (L, b) kk acc (i : Int) = some (.inl ([], 12)) ∨ ∃ l, L.drop i = l.map shown ∧ Ok l ∧ r40_ReadText_L1 91000 (L, b) kk acc (i : Int) = some (.inr (acc ++ l)) := by
  intro kk
  induction kk with
  | zero => intro i acc h; omega
  | succ kk ih =>
    intro i acc hk hi ha
    rw [r40_ReadText_L1]
    by_cases hlt : i < L.length
    · have hxl := hx _ (List.getElem_mem hlt)
      obtain ⟨a, e, h1, h2⟩ := rread 91000 (by decide) L[i] (by omega)
      rw [show decide ((i : Int) < ln (L, b).1) = true from lt_dec hlt, cond_true, show chk (0 ≤ (i : Int) ∧ (i : Int) < ln (L, b).1) = fun k => k from by funext k; exact chk_ix hlt]
      dsimp only
      rw [gi_nat L i hlt, h1, Option.bind_some]
      dsimp only
      rcases h2 with ⟨rfl, hi2, ho, hs⟩ | ⟨rfl, _, _⟩ | ⟨_, _, h9⟩
      · rw [show ((0 : Int) != 0) = false from rfl, cond_false, chk_pos (by unfold ln; simp only [List.length_cons, List.length_nil]; omega), lt_eq, w64_ix (by omega)]
        rcases ih (i + 1) (acc ++ [a]) (by omega) hlt (by simp only [List.length_append, List.length_cons, List.length_nil]; omega) with h | ⟨l, h3, h4, h5⟩
        · exact .inl h
        · refine .inr ⟨a :: l, by rw [List.drop_eq_getElem_cons hlt, h3, List.map_cons, hs], fun x hx => ?_, by rw [h5, List.append_assoc]; rfl⟩
          rcases List.mem_cons.1 hx with rfl | hx
          · exact ⟨hi2, ho⟩
          · exact h4 x hx
      · exact .inl rfl
      · omega
    · rw [show decide ((i : Int) < ln (L, b).1) = false from ge_dec (show L.length ≤ i by omega), cond_false]
      exact .inr ⟨[], by rw [List.drop_eq_nil_of_le (by omega)]; rfl, fun x hx => (by cases hx), by rw [List.append_nil]⟩
theorem map_fm : ∀ l : List TAnswer, ((l.map shown).flatMap fun x => x ++ [10]) = textS l
  | [] => rfl
  | a :: l => by
    rw [List.map_cons, List.flatMap_cons, map_fm l, textS_cons, List.append_assoc]
    rfl
theorem rr_any (s : Str) (hs : s.length ≤ 90000) : r40_ReadText 91000 s = some ([], 12) ∨ ∃ l, s = textS l ∧ l.length ≤ 60 ∧ Ok l ∧ r40_ReadText 91000 s = some (l, 0) := by
  have hb := spS_back s []
  rw [List.nil_append] at hb
  unfold r40_ReadText
  rw [decide_eq_false (show ¬ (5400000 : Int) < ln s by unfold ln; omega), cond_false, split_eq s hs, Option.bind_some, lt_eq]
  dsimp only
  by_cases hz : (spS [] s).2.length = 0 ∨ s.length = 0
  · have hz2 : (spS [] s).2 = [] := by
      rcases hz with h | h
      · exact List.eq_nil_of_length_eq_zero h
      · have : s = [] := List.eq_nil_of_length_eq_zero h
        subst this
        rfl
    rw [hz2, List.append_nil] at hb
    rw [decide_eq_true hz, Bool.not_true, cond_false]
    by_cases h6 : (60 : Int) < ln (spS [] s).1
    · rw [decide_eq_true h6, cond_true]
      exact .inl rfl
    · rw [decide_eq_false h6, cond_false]
      have h60 : (spS [] s).1.length ≤ 60 := by unfold ln at h6; omega
      have hx : ∀ x ∈ (spS [] s).1, x.length ≤ 90000 := fun x hx => by
        have := mem_fm _ x hx
        rw [← hb] at this
        omega
      rcases rr_L1 (spS [] s).1 true h60 hx 91000 0 [] (by omega) (by omega) (by simp) with h | ⟨l, h1, h2, h3⟩
      · left
        rw [show r40_ReadText_L1 91000 ((spS [] s).1, true) 91000 [] 0 = _ from h]
        rfl
      · right
        rw [List.drop_zero] at h1
        rw [h1, map_fm] at hb
        rw [h1, List.length_map] at h60
        refine ⟨l, hb, h60, h2, ?_⟩
        rw [show r40_ReadText_L1 91000 ((spS [] s).1, true) 91000 [] 0 = _ from h3]
        rfl
  · rw [decide_eq_false hz, Bool.not_false, cond_true]
    exact .inl rfl
theorem reads_eq (s : Str) (hs : s.length ≤ 90000) : ∃ l e, answer_ReadText 91000 s = some (l, e) ∧ r40_ReadText 91000 s = some (l, e) ∧ r40_SameAll 91000 l l = some true := by
  have sn : r40_SameAll 91000 [] [] = some true := by kernel_rfl
  rcases rt_any s hs with h | ⟨l, h1, h2, h3, h4⟩
  · rcases rr_any s hs with h5 | ⟨l, h5, h6, h7, h8⟩
    · exact ⟨[], 12, h, h5, sn⟩
    · exfalso
      have h9 := rt_text l h6 h7 (by rw [← h5]; exact hs)
      rw [← h5, h] at h9
      have := (Prod.mk.inj (Option.some.inj h9)).2
      exact absurd this (by decide)
  · have sl : r40_SameAll 91000 l l = some true := sall_self l (by omega) fun x hx => nb_ok (h3 x hx).1 (h3 x hx).2
    rcases rr_any s hs with h5 | ⟨l2, h5, h6, h7, h8⟩
    · exfalso
      have hsp := spS_text l h3
      have hx : ∀ x ∈ l.map shown, x.length ≤ 90000 := fun x hx => by
        obtain ⟨a, ha, rfl⟩ := List.mem_map.1 hx
        exact shown_len a (h3 a ha).1 (h3 a ha).2
      have hL : ∀ (kk i : Nat) (acc : List TAnswer), l.length - i < kk → i ≤ l.length → acc.length ≤ i → r40_ReadText_L1 91000 (l.map shown, true) kk acc (i : Int) = some (.inr (acc ++ l.drop i)) := by
        intro kk
        induction kk with
        | zero => intro i acc h; omega
        | succ kk ih =>
          intro i acc hk hi ha
          rw [r40_ReadText_L1]
          by_cases hlt : i < l.length
          · have hm : i < (l.map shown).length := by rw [List.length_map]; exact hlt
            have hy := h3 _ (List.getElem_mem hlt)
            have hsl := shown_len l[i] hy.1 hy.2
            have hr : r40_ReadLine 91000 (shown l[i]) = some (l[i], 0) := by
              obtain ⟨a, e, q1, q2⟩ := rread 91000 (by decide) (shown l[i]) (by omega)
              rcases q2 with ⟨rfl, hi2, ho, hs2⟩ | ⟨_, _, hn⟩ | ⟨_, _, h9⟩
              · rw [q1, shown_inj hi2 hy.1 ho hs2]
              · exact absurd rfl (hn _ hy.1 hy.2)
              · omega
            rw [show decide ((i : Int) < ln (l.map shown, true).1) = true from lt_dec hm, cond_true, show chk (0 ≤ (i : Int) ∧ (i : Int) < ln (l.map shown, true).1) = fun k => k from by funext k; exact chk_ix hm]
            dsimp only
            rw [gi_nat _ i hm, List.getElem_map, hr, Option.bind_some]
            dsimp only
            rw [show ((0 : Int) != 0) = false from rfl, cond_false, chk_pos (by unfold ln; simp only [List.length_cons, List.length_nil]; omega), lt_eq, w64_ix (by omega), ih (i + 1) _ (by omega) hlt (by simp only [List.length_append, List.length_cons, List.length_nil]; omega), List.drop_eq_getElem_cons hlt, List.append_assoc]
            rfl
          · rw [show decide ((i : Int) < ln (l.map shown, true).1) = false from ge_dec (by rw [List.length_map]; omega), cond_false, List.drop_eq_nil_of_le (by omega), List.append_nil]
      have h0 := hL 91000 0 [] (by omega) (by omega) (by simp)
      rw [List.drop_zero, List.nil_append] at h0
      have h9 : r40_ReadText 91000 s = some (l, 0) := by
        unfold r40_ReadText
        rw [decide_eq_false (show ¬ (5400000 : Int) < ln s by unfold ln; omega), cond_false, split_eq s hs, Option.bind_some, lt_eq, h1, hsp]
        dsimp only
        rw [decide_eq_true (Or.inl (show ([] : Str).length = 0 from rfl)), Bool.not_true, cond_false, decide_eq_false (show ¬ (60 : Int) < ln (l.map shown) by unfold ln; rw [List.length_map]; omega), cond_false, show r40_ReadText_L1 91000 (l.map shown, true) 91000 [] 0 = _ from h0]
        rfl
      rw [h5] at h9
      have := (Prod.mk.inj (Option.some.inj h9)).2
      exact absurd this (by decide)
    · have h9 := rt_text l2 h6 h7 (by rw [← h5]; exact hs)
      rw [← h5, h4] at h9
      have e : l = l2 := (Prod.mk.inj (Option.some.inj h9)).1
      subst e
      exact ⟨l, 0, h4, h8, sl⟩
/-! ## The first difference -/
theorem rfirst_L1 (a b : List TAnswer) (hl : a.length ≤ 65) (hl2 : b.length ≤ 65) (ha : ∀ x ∈ a, Nb x) : ∀ (kk i : Nat), a.length + b.length - i < kk → i ≤ a.length → i ≤ b.length → a.take i = b.take i →
    (a = b ∧ r40_First_L1 91000 a b kk (i : Int) = some (.inr ())) ∨ (a ≠ b ∧ ∃ k : Nat, r40_First_L1 91000 a b kk (i : Int) = some (.inl ((k : Int), 0)) ∧ Part a b k) := by
  intro kk
  induction kk with
  | zero => intro i h; omega
  | succ kk ih =>
    intro i hk hi hi2 ht
    rw [r40_First_L1, lt_eq]
    by_cases h1 : i < a.length
    · rw [lt_dec h1, cond_true, cond_true, lt_eq]
      by_cases h2 : i < b.length
      · have hx := ha _ (List.getElem_mem h1)
        have hxt := hx.t
        have hxn := hx.n
        obtain ⟨q, q1, q2⟩ := same_eq 91000 a[i] b[i] (by omega) (by omega) (by omega) (by omega)
        rw [decide_eq_false (show ¬ ln a ≤ (i : Int) by unfold ln; omega), decide_eq_false (show ¬ ln b ≤ (i : Int) by unfold ln; omega), cond_false, cond_false, chk_pos (fun _ => ⟨by omega, by unfold ln; omega⟩), chk_pos (fun _ => ⟨by omega, by unfold ln; omega⟩), gi_nat a i h1, gi_nat b i h2, q1, Option.bind_some]
        cases q with
        | false =>
          refine .inr ⟨fun e => ?_, i, rfl, by omega, by omega, ht, fun _ _ e => by have := q2.2 e; cases this⟩
          subst e
          have := q2.2 rfl
          cases this
        | true =>
          rw [Bool.not_true, cond_false, cond_false, w64_ix (by omega)]
          exact ih (i + 1) (by omega) h1 h2 (take_eq_of ht h1 h2 (q2.1 rfl))
      · rw [decide_eq_false (show ¬ ln a ≤ (i : Int) by unfold ln; omega), decide_eq_true (show ln b ≤ (i : Int) by unfold ln; omega), cond_false, chk_pos (fun h => by cases h), chk_pos (fun h => by cases h), cond_true, Option.bind_some, cond_true, cond_true]
        exact .inr ⟨fun e => by subst e; exact h2 h1, i, rfl, by omega, by omega, ht, fun _ h => absurd h h2⟩
    · rw [ge_dec (by omega), cond_false]
      by_cases h2 : i < b.length
      · rw [lt_dec h2, cond_true, lt_eq, decide_eq_true (show ln a ≤ (i : Int) by unfold ln; omega), cond_true, chk_pos (fun h => by cases h), chk_pos (fun h => by cases h), cond_true, Option.bind_some, cond_true, cond_true]
        exact .inr ⟨fun e => by subst e; exact h1 h2, i, rfl, by omega, by omega, ht, fun h _ => absurd h h1⟩
      · rw [ge_dec (by omega), cond_false]
        refine .inl ⟨?_, rfl⟩
        rw [List.take_of_length_le (by omega), List.take_of_length_le (by omega)] at ht
        exact ht
theorem firsts_eq (a b : List TAnswer) (hl : a.length ≤ 65) (hl2 : b.length ≤ 65) (ha : ∀ x ∈ a, Nb x) (hb : ∀ x ∈ b, Nb x) : ∃ r, answer_First 91000 a b = some r ∧ r40_First 91000 a b = some r := by
  by_cases la : logE a = 0
  · by_cases lb : logE b = 0
    · obtain ⟨at_, e, h1, h2⟩ := first_eq a b hl hl2 ha hb la lb
      have h3 := rfirst_L1 a b hl hl2 ha 91000 0 (by omega) (by omega) (by omega) (by simp)
      refine ⟨(at_, e), h1, ?_⟩
      unfold r40_First
      rw [log_eq a hl ha, la, Option.bind_some, show ((0 : Int) != 0) = false from rfl, cond_false, log_eq b hl2 hb, lb, Option.bind_some, show ((0 : Int) != 0) = false from rfl, cond_false]
      rcases h2 with ⟨rfl, rfl, rfl⟩ | ⟨hne, rfl, k, rfl, hp⟩
      · rcases h3 with ⟨_, h4⟩ | ⟨h4, _⟩
        · rw [show r40_First_L1 91000 a a 91000 0 = _ from h4]
          rfl
        · exact absurd rfl h4
      · rcases h3 with ⟨h4, _⟩ | ⟨_, k2, h4, hp2⟩
        · exact absurd h4 hne
        · have e1 := hp.le hp2
          have e2 := hp2.le hp
          have : k = k2 := by omega
          subst this
          rw [show r40_First_L1 91000 a b 91000 0 = _ from h4]
          rfl
    · refine ⟨(0, logE b), ?_, ?_⟩
      · unfold answer_First
        rw [check2_eq a hl ha, Option.bind_some, la, show ((0 : Int) != 0) = false from rfl, cond_false, check2_eq b hl2 hb, Option.bind_some, show (logE b != 0) = true from bne_iff_ne.2 lb, cond_true]
      · unfold r40_First
        rw [log_eq a hl ha, Option.bind_some, la, show ((0 : Int) != 0) = false from rfl, cond_false, log_eq b hl2 hb, Option.bind_some, show (logE b != 0) = true from bne_iff_ne.2 lb, cond_true]
  · refine ⟨(0, logE a), ?_, ?_⟩
    · unfold answer_First
      rw [check2_eq a hl ha, Option.bind_some, show (logE a != 0) = true from bne_iff_ne.2 la, cond_true]
    · unfold r40_First
      rw [log_eq a hl ha, Option.bind_some, show (logE a != 0) = true from bne_iff_ne.2 la, cond_true]
theorem plain_AnswerTexts (l k : List TAnswer) (s : Str) (wl : l.length ≤ maxLen ∧ ∀ y ∈ l, WfA y) (wk : k.length ≤ maxLen ∧ ∀ y ∈ k, WfA y) {p : Prop} (_ : p) (hb : bkL bkA l + bkL bkA k + (s.length + 1) + 0 ≤ 1048576) : law40_AnswerTexts 91000 l k s = some true := by
  have zl : ∀ x ∈ l, tot x.Texts ≤ 1048576 := fun x hx => by have h1 := bkA_tot x; have h2 := bkL_mem (bk := bkA) hx; omega
  have zk : ∀ x ∈ k, tot x.Texts ≤ 1048576 := fun x hx => by have h1 := bkA_tot x; have h2 := bkL_mem (bk := bkA) hx; omega
  obtain ⟨p1, g1, g2⟩ := great2_eq l wl.2 zl
  obtain ⟨p2, f1, f2⟩ := great2_eq k wk.2 zk
  unfold law40_AnswerTexts
  rw [g1, Option.bind_some]
  cases p1 with
  | true => rfl
  | false =>
    rw [cond_false, f1, Option.bind_some, lt_eq]
    cases p2 with
    | true => rfl
    | false =>
      obtain ⟨_, l65, nl2⟩ := g2 rfl
      obtain ⟨_, k65, nk2⟩ := f2 rfl
      have nl' : ∀ x ∈ l, Nb x := fun x hx => (nl2 x hx).n
      have nk' : ∀ x ∈ k, Nb x := fun x hx => (nk2 x hx).n
      rw [cond_false, cond_false]
      cases hs : cond (cond (decide ((4000 : Int) < ln s)) (decide (ln s ≤ 5400000)) false) true (decide ((5400100 : Int) < ln s)) with
      | true => rfl
      | false =>
        have hs4 : s.length ≤ 4000 := by
          by_cases h : (4000 : Int) < ln s
          · rw [decide_eq_true h, decide_eq_true (show ln s ≤ 5400000 by unfold ln; omega)] at hs
            cases hs
          · unfold ln at h; omega
        obtain ⟨r, t1, t2⟩ := texts_eq l l65 nl'
        obtain ⟨q, e, r1, r2, r3⟩ := reads_eq s (by omega)
        obtain ⟨u, u1, u2⟩ := firsts_eq l k l65 k65 nl' nk'
        rw [cond_false, t1, Option.bind_some, t2, Option.bind_some, r1, Option.bind_some, r2, Option.bind_some, u1, Option.bind_some, u2, Option.bind_some, lt_eq]
        dsimp only
        rw [beq_self_eq_true, beq_self_eq_true, cond_true, cond_true, r3, Option.bind_some, lt_eq, cond_true, beq_self_eq_true, cond_true, lt_eq, beq_self_eq_true, beq_self_eq_true, cond_true, cond_true]
end Go.Proofs.YtipafpkdkhnjmaaGreatDoor

/-
  AnswerBack: the model comes to 'true' for every log and every text. No program in sight.
-/
import Derived.Test.YtipafpkdkhnjmaaDoorQ7
set_option linter.unusedVariables false
set_option maxRecDepth 100000
namespace Go.Proofs.YtipafpkdkhnjmaaDoor
open Go Go.V Go.RowKit
structure Nc (a : TAnswer) : Prop where
  n : Nb a
  s : tot a.Texts ≤ 600 ∨ 20000 < tot a.Texts
theorem great2_L1 (l : List TAnswer) (hl : l.length ≤ 65) (hw : ∀ x ∈ l, WfA x) (hz : ∀ x ∈ l, tot x.Texts ≤ 1048576) : ∀ (kk i : Nat), l.length - i < kk → i ≤ l.length → r40_Great_L1 91000 l kk (i : Int) = some (.inl true) ∨ (r40_Great_L1 91000 l kk (i : Int) = some (.inr ()) ∧ ∀ x ∈ l.drop i, Nc x) := by
  intro kk
  induction kk with
  | zero => intro i h; omega
  | succ kk ih =>
    intro i hk hi
    rw [r40_Great_L1]
    by_cases hlt : i < l.length
    · have hm := List.getElem_mem hlt
      obtain ⟨b, b1, b2⟩ := big_eq 91000 (by decide) l[i] (hz _ hm)
      rw [lt_dec hlt, cond_true, chk_ix hlt, gi_nat l i hlt, b1, Option.bind_some]
      cases b with
      | true => exact Or.inl rfl
      | false =>
        obtain ⟨c1, c2, c3, c4⟩ := b2 rfl
        rw [cond_false, w64_ix (by omega)]
        rcases ih (i + 1) (by omega) hlt with h | ⟨h1, h2⟩
        · exact Or.inl h
        · refine Or.inr ⟨h1, fun x hx => ?_⟩
          rw [List.drop_eq_getElem_cons hlt] at hx
          rcases List.mem_cons.1 hx with rfl | hx
          · exact ⟨⟨in_big 91000 (by decide) (hw _ hm) c1 c2 c4, c1, c2, c4⟩, c3⟩
          · exact h2 x hx
    · rw [ge_dec (by omega), cond_false]
      exact Or.inr ⟨rfl, fun x hx => by rw [List.drop_eq_nil_of_le (by omega)] at hx; cases hx⟩
theorem great2_eq (l : List TAnswer) (hw : ∀ x ∈ l, WfA x) (hz : ∀ x ∈ l, tot x.Texts ≤ 1048576) : ∃ b, r40_Great 91000 l = some b ∧ (b = false → (l.length ≤ 15 ∨ 60 < l.length) ∧ l.length ≤ 65 ∧ ∀ x ∈ l, Nc x) := by
  unfold r40_Great
  rw [lt_eq]
  cases hc : cond (cond (decide (15 < ln l)) (decide (ln l ≤ 60)) false) true (decide (65 < ln l)) with
  | true => exact ⟨true, rfl, fun h => by cases h⟩
  | false =>
    have h65 : (l.length ≤ 15 ∨ 60 < l.length) ∧ l.length ≤ 65 := by
      unfold ln at hc
      by_cases h : (65 : Int) < (l.length : Int)
      · rw [decide_eq_true h] at hc
        cases h2 : cond (decide ((15 : Int) < (l.length : Int))) (decide ((l.length : Int) ≤ 60)) false <;> rw [h2] at hc <;> cases hc
      · refine ⟨?_, by omega⟩
        by_cases h2 : (15 : Int) < (l.length : Int)
        · by_cases h3 : (l.length : Int) ≤ 60
          · rw [decide_eq_true h2, decide_eq_true h3] at hc
            cases hc
          · right; omega
        · left; omega
    rw [cond_false]
    rcases great2_L1 l h65.2 hw hz 91000 0 (by omega) (by omega) with h | ⟨h1, h2⟩
    · rw [show r40_Great_L1 91000 l 91000 0 = _ from h]
      exact ⟨true, rfl, fun h => by cases h⟩
    · rw [show r40_Great_L1 91000 l 91000 0 = _ from h1]
      exact ⟨false, rfl, fun _ => ⟨h65.1, h65.2, fun x hx => h2 x (by rw [List.drop_zero]; exact hx)⟩⟩
theorem shown_small (a : TAnswer) (h : Nc a) (ho : okA a = true) : (shown a).length ≤ 4200 := by
  obtain ⟨_, q2, q3, q4⟩ := okA_iff.1 ho
  have hi := h.n.i
  have hs := h.s
  have t1 := tot_qt a.Texts
  have t2 := tot_it a.Numbers hi.nums
  have l1 := ls_len (a.Texts.map qt)
  have l2 := ls_len (a.Numbers.map Lib.itoa)
  have i1 := itoa_len hi.err
  have i2 := itoa_len hi.num
  rw [List.length_map] at l1 l2
  unfold shown
  simp only [List.length_append, List.length_cons, List.length_nil]
  omega
theorem textS_len : ∀ l : List TAnswer, (∀ x ∈ l, Nc x) → (∀ x ∈ l, okA x = true) → (textS l).length ≤ 4201 * l.length
  | [], _, _ => Nat.zero_le _
  | a :: l, h, ho => by
    have h1 := shown_small a (h a List.mem_cons_self) (ho a List.mem_cons_self)
    have h2 := textS_len l (fun x hx => h x (List.mem_cons_of_mem _ hx)) (fun x hx => ho x (List.mem_cons_of_mem _ hx))
    rw [textS_cons, List.length_append, List.length_cons, List.length_cons]
    omega
theorem nb_ok {a : TAnswer} (h : In 91000 a) (ho : okA a = true) : Nb a := by
  obtain ⟨_, q2, q3, q4⟩ := okA_iff.1 ho
  exact ⟨h, by omega, by omega, by omega⟩
theorem line_of (a : TAnswer) (h : In 91000 a) (ho : okA a = true) : answer_Line 91000 a = some (shown a, 0) := by
  rw [line_eq 91000 (by decide) (by decide) a h, ho]
  rfl
theorem back_L1 (l : List TAnswer) (ho : Ok l) (hl : l.length ≤ 65) (b : Bool) : ∀ (kk i : Nat), l.length - i < kk → i ≤ l.length → law40_AnswerBack_L1 91000 l (l.map shown, b) kk (i : Int) = some (.inr ()) := by
  intro kk
  induction kk with
  | zero => intro i h; omega
  | succ kk ih =>
    intro i hk hi
    rw [law40_AnswerBack_L1]
    by_cases h1 : i < l.length
    · have hx := ho _ (List.getElem_mem h1)
      have hm : i < (l.map shown).length := by rw [List.length_map]; exact h1
      have hg : gi (l.map shown) (i : Int) = shown l[i] := by rw [gi_nat _ i hm, List.getElem_map]
      rw [lt_dec h1, cond_true, chk_ix h1, gi_nat l i h1, line_of _ hx.1 hx.2, Option.bind_some]
      dsimp only
      rw [chk_pos (fun _ => ⟨by omega, by unfold ln; omega⟩), hg, beq_self_eq_true, lt_eq, show ((0 : Int) != 0) = false from rfl, cond_false, Bool.not_true, cond_false, w64_ix (by omega)]
      exact ih (i + 1) (by omega) h1
    · rw [ge_dec (by omega), cond_false]
theorem plain_AnswerBack (l : List TAnswer) (s : Str) (wl : l.length ≤ maxLen ∧ ∀ y ∈ l, WfA y) {p : Prop} (_ : p) (hb : bkL bkA l + (s.length + 1) + 0 ≤ 1048576) : law40_AnswerBack 91000 l s = some true := by
  have hz : ∀ x ∈ l, tot x.Texts ≤ 1048576 := fun x hx => by
    have h1 := bkA_tot x
    have h2 : bkA x ≤ bkL bkA l := bkL_sum hx
    omega
  obtain ⟨g, g1, g2⟩ := great2_eq l wl.2 hz
  unfold law40_AnswerBack
  rw [alive_eq, Option.bind_some, g1, Option.bind_some, lt_eq, Bool.not_true]
  cases hc : cond (cond g true (decide (4000 < ln s))) true false with
  | true => rfl
  | false =>
    have hg : g = false ∧ s.length ≤ 4000 := by
      cases g
      · refine ⟨rfl, ?_⟩
        rw [cond_false] at hc
        by_cases h : (4000 : Int) < ln s
        · rw [decide_eq_true h] at hc; cases hc
        · unfold ln at h; omega
      · cases hc
    obtain ⟨h15, h65, hn⟩ := g2 hg.1
    have hs := hg.2
    have hnb : ∀ x ∈ l, Nb x := fun x hx => (hn x hx).n
    rw [cond_false]
    -- what the second text comes to
    have second : ∀ (X : Option (Sum Bool Unit)), X = some (.inr ()) → Option.bind X (fun z20 => sumK z20 fun _ => Option.bind (answer_ReadText 91000 s) fun y71 =>
        cond (y71.2 != 0) (some (cond true (y71.2 == 12) false)) (Option.bind (answer_Text 91000 y71.1) fun y82 => lt (cond (cond true (y82.2 == 0) false) (y82.1 == s) false) fun x85 => some x85)) = some true := by
      intro X hX
      rw [hX, Option.bind_some]
      dsimp only [sumK]
      rcases rt_any s (by omega) with h | ⟨l2, e1, e2, e3, e4⟩
      · rw [h]; rfl
      · rw [e4, Option.bind_some]
        dsimp only
        rw [show ((0 : Int) != 0) = false from rfl, cond_false, text_eq l2 e2 (fun x hx => nb_ok (e3 x hx).1 (e3 x hx).2) (fun x hx => (e3 x hx).2), Option.bind_some, lt_eq]
        dsimp only
        rw [← e1, show ((0 : Int) == 0) = true from rfl, beq_self_eq_true]
        rfl
    rw [log_eq l h65 hnb]
    by_cases hL : logE l = 0
    · obtain ⟨h60, hok⟩ := logE_0 hL
      have hOk : Ok l := fun x hx => ⟨(hnb x hx).i, hok x hx⟩
      have hlen := textS_len l hn hok
      have hl9 : (textS l).length ≤ 90000 := by omega
      rw [text_eq l h60 hnb hok, Option.bind_some, Option.bind_some, hL]
      dsimp only
      rw [show (!((0 : Int) == 0) == ((0 : Int) == 0)) = false from rfl, cond_false, show ((0 : Int) == 0) = true from rfl, cond_true]
      refine second _ ?_
      rw [rt_text l h60 hOk hl9, Option.bind_some, split_eq _ hl9, Option.bind_some]
      dsimp only
      rw [spS_text l hOk, show ((0 : Int) != 0) = false from rfl, cond_false, sall_self l h65 hnb, Option.bind_some, cond_false, lt_eq, Bool.not_true, cond_false]
      dsimp only
      rw [decide_eq_true (Or.inl (show ([] : Str).length = 0 from rfl)), Bool.not_true, cond_false, show ((ln (l.map shown)) != (ln l)) = false from bne_eq_false_iff_eq.2 (by unfold ln; rw [List.length_map]), cond_false]
      exact back_L1 l hOk h65 true 91000 0 (by omega) (Nat.zero_le _)
    · have ht : answer_Text 91000 l = some ([], logE l) := by
        unfold answer_Text
        rw [check2_eq l h65 hnb, Option.bind_some, show (logE l != 0) = true from bne_iff_ne.2 hL, cond_true]
      rw [ht, Option.bind_some, Option.bind_some]
      dsimp only
      rw [show (logE l == 0) = false from beq_eq_false_iff_ne.2 hL, show (!((false : Bool) == false)) = false from rfl, cond_false, cond_false]
      exact second _ rfl
end Go.Proofs.YtipafpkdkhnjmaaDoor

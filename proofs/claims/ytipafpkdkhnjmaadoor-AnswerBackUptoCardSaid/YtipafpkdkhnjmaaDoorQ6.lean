/-
  Answers as text: the reference's reader, whole. No program in sight.
-/
import Derived.Test.YtipafpkdkhnjmaaDoorQ5
set_option linter.unusedVariables false
set_option maxRecDepth 100000
namespace Go.Proofs.YtipafpkdkhnjmaaDoor
open Go Go.V Go.RowKit
theorem mem_tot {t : Str} : ∀ {ts : List Str}, t ∈ ts → t.length ≤ tot ts
  | x :: l, h => by
    rw [tot_cons]
    rcases List.mem_cons.1 h with rfl | h
    · omega
    · have := mem_tot h; omega
/-! ## What is the same -/
theorem same_L1 (m : Nat) (a b : TAnswer) (hl : a.Texts.length < 1000000) (he : a.Texts.length = b.Texts.length) : ∀ (kk i : Nat), a.Texts.length - i < kk → i ≤ a.Texts.length → r40_Same_L1 m a b kk (i : Int) = some (cond (a.Texts.drop i == b.Texts.drop i) (.inr ()) (.inl false)) := by
  intro kk
  induction kk with
  | zero => intro i h; omega
  | succ kk ih =>
    intro i hk hi
    rw [r40_Same_L1]
    by_cases hlt : i < a.Texts.length
    · have hlt2 : i < b.Texts.length := by omega
      rw [lt_dec hlt, cond_true, chk_ix hlt, chk_ix hlt2, gi_nat a.Texts i hlt, gi_nat b.Texts i hlt2, List.drop_eq_getElem_cons hlt, List.drop_eq_getElem_cons hlt2, lt_eq]
      show cond (!(a.Texts[i] == b.Texts[i])) _ _ = some (cond (a.Texts[i] == b.Texts[i] && a.Texts.drop (i + 1) == b.Texts.drop (i + 1)) _ _)
      cases a.Texts[i] == b.Texts[i] with
      | false => rfl
      | true => rw [Bool.not_true, cond_false, Bool.true_and, w64_ix (by omega)]; exact ih (i + 1) (by omega) hlt
    · rw [ge_dec (by omega), cond_false, List.drop_eq_nil_of_le (by omega), List.drop_eq_nil_of_le (by omega)]
      rfl
theorem same_L2 (m : Nat) (a b : TAnswer) (hl : a.Numbers.length < 1000000) (he : a.Numbers.length = b.Numbers.length) : ∀ (kk i : Nat), a.Numbers.length - i < kk → i ≤ a.Numbers.length → r40_Same_L2 m a b kk (i : Int) = some (cond (a.Numbers.drop i == b.Numbers.drop i) (.inr ()) (.inl false)) := by
  intro kk
  induction kk with
  | zero => intro i h; omega
  | succ kk ih =>
    intro i hk hi
    rw [r40_Same_L2]
    by_cases hlt : i < a.Numbers.length
    · have hlt2 : i < b.Numbers.length := by omega
      rw [lt_dec hlt, cond_true, chk_ix hlt, chk_ix hlt2, gi_nat a.Numbers i hlt, gi_nat b.Numbers i hlt2, List.drop_eq_getElem_cons hlt, List.drop_eq_getElem_cons hlt2, lt_eq]
      show cond (!(a.Numbers[i] == b.Numbers[i])) _ _ = some (cond (a.Numbers[i] == b.Numbers[i] && a.Numbers.drop (i + 1) == b.Numbers.drop (i + 1)) _ _)
      cases a.Numbers[i] == b.Numbers[i] with
      | false => rfl
      | true => rw [Bool.not_true, cond_false, Bool.true_and, w64_ix (by omega)]; exact ih (i + 1) (by omega) hlt
    · rw [ge_dec (by omega), cond_false, List.drop_eq_nil_of_le (by omega), List.drop_eq_nil_of_le (by omega)]
      rfl
theorem same_eq (m : Nat) (a b : TAnswer) (h1 : a.Texts.length < 1000000) (h2 : a.Numbers.length < 1000000) (h3 : a.Texts.length < m) (h4 : a.Numbers.length < m) : ∃ q, r40_Same m a b = some q ∧ (q = true ↔ a = b) := by
  obtain ⟨e, n, ts, ns⟩ := a
  obtain ⟨e', n', ts', ns'⟩ := b
  unfold r40_Same
  dsimp only at *
  by_cases he : e = e'
  · by_cases hn : n = n'
    · by_cases ht : ts.length = ts'.length
      · by_cases hns : ns.length = ns'.length
        · have c1 : cond (e != e') true (n != n') = false := by rw [he, hn]; simp
          have c2 : (ln ts != ln ts') = false := by unfold ln; rw [ht]; simp
          have c3 : (ln ns != ln ns') = false := by unfold ln; rw [hns]; simp
          rw [c1, lt_eq, cond_false, c2, lt_eq, cond_false, c3, lt_eq, cond_false]
          have g1 := same_L1 m (TAnswer.mk e n ts ns) (TAnswer.mk e' n' ts' ns') h1 ht m 0 (by show ts.length - 0 < m; omega) (by omega)
          have g2 := same_L2 m (TAnswer.mk e n ts ns) (TAnswer.mk e' n' ts' ns') h2 hns m 0 (by show ns.length - 0 < m; omega) (by omega)
          rw [List.drop_zero, List.drop_zero] at g1 g2
          rw [show r40_Same_L1 m (TAnswer.mk e n ts ns) (TAnswer.mk e' n' ts' ns') m 0 = _ from g1, Option.bind_some]
          dsimp only
          cases hx : (ts == ts') with
          | false =>
            refine ⟨false, rfl, (fun h => by cases h), fun h => ?_⟩
            injection h with _ _ h5 _
            rw [h5, beq_self_eq_true] at hx; cases hx
          | true =>
            rw [cond_true]
            unfold sumK
            dsimp only
            rw [show r40_Same_L2 m (TAnswer.mk e n ts ns) (TAnswer.mk e' n' ts' ns') m 0 = _ from g2, Option.bind_some]
            dsimp only
            cases hy : (ns == ns') with
            | false =>
              refine ⟨false, rfl, (fun h => by cases h), fun h => ?_⟩
              injection h with _ _ _ h5
              rw [h5, beq_self_eq_true] at hy; cases hy
            | true => exact ⟨true, rfl, (fun _ => by rw [he, hn, eq_of_beq hx, eq_of_beq hy]), fun _ => rfl⟩
        · have c3 : (ln ns != ln ns') = true := bne_iff_ne.2 (by unfold ln; omega)
          refine ⟨false, ?_, (fun h => by cases h), fun h => ?_⟩
          · rw [c3, lt_eq, lt_eq, lt_eq]
            cases cond (cond (e != e') true (n != n')) true (ln ts != ln ts') <;> rfl
          · injection h with _ _ _ h5; exact absurd (by rw [h5]) hns
      · have c2 : (ln ts != ln ts') = true := bne_iff_ne.2 (by unfold ln; omega)
        refine ⟨false, ?_, (fun h => by cases h), fun h => ?_⟩
        · rw [c2, lt_eq, lt_eq, lt_eq]
          cases cond (e != e') true (n != n') <;> rfl
        · injection h with _ _ h5 _; exact absurd (by rw [h5]) ht
    · have c1 : (n != n') = true := bne_iff_ne.2 hn
      refine ⟨false, ?_, (fun h => by cases h), fun h => ?_⟩
      · rw [c1, lt_eq, lt_eq, lt_eq]
        cases (e != e') <;> rfl
      · injection h with _ h5 _ _; exact absurd h5 hn
  · have c1 : (e != e') = true := bne_iff_ne.2 he
    refine ⟨false, ?_, (fun h => by cases h), fun h => ?_⟩
    · rw [c1, lt_eq, lt_eq, lt_eq]; rfl
    · injection h with h5 _ _ _; exact absurd h5 he
end Go.Proofs.YtipafpkdkhnjmaaDoor

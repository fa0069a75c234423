/-
  Lines of a text, and logs that are read. No program in sight.
-/
import Derived.Test.YtipafpkdkhnjmaaGreatDoorP40First
set_option linter.unusedVariables false
set_option maxRecDepth 100000
namespace Go.Proofs.YtipafpkdkhnjmaaGreatDoor
open Go Go.V Go.RowKit
/-! ## Lines -/
def nl (s : Str) : Bool := s.all fun c => !(c == 10)
theorem nl_cons {c : UInt8} {t : Str} (h : nl (c :: t) = true) : (c == 10) = false ∧ nl t = true := by
  unfold nl at h ⊢
  rw [List.all_cons, Bool.and_eq_true] at h
  exact ⟨by simpa using h.1, h.2⟩
theorem lnT_app : ∀ (t r : Str), nl t = true → lnT (t ++ 10 :: r) = t ++ [10] ∧ lnR (t ++ 10 :: r) = r
  | [], r, _ => ⟨rfl, rfl⟩
  | c :: t, r, h => by
    obtain ⟨hc, ht⟩ := nl_cons h
    obtain ⟨h1, h2⟩ := lnT_app t r ht
    rw [List.cons_append, lnT, lnR, hc, cond_false, cond_false, h1, h2]
    exact ⟨rfl, rfl⟩
/-- A text that is empty, or ends with a line feed. -/
def en : Str → Bool
  | [] => true
  | c :: r => cond r.isEmpty (c == 10) (en r)
theorem en_app : ∀ (t r : Str), en (t ++ 10 :: r) = true → en r = true
  | [], [], _ => rfl
  | [], d :: q, h => h
  | c :: t, r, h => by
    have : (t ++ 10 :: r).isEmpty = false := by cases t <;> rfl
    rw [List.cons_append, en, this, cond_false] at h
    exact en_app t r h
theorem en_last : ∀ (p : Str) (c : UInt8), en (p ++ [c]) = (c == 10)
  | [], c => rfl
  | d :: p, c => by
    have : (p ++ [c]).isEmpty = false := by cases p <;> rfl
    rw [List.cons_append, en, this, cond_false, en_last p c]
theorem en_cut : ∀ v : Str, v ≠ [] → en v = true → ∃ t r, nl t = true ∧ v = t ++ 10 :: r
  | [], h, _ => absurd rfl h
  | c :: r, _, h => by
    cases hc : (c == 10)
    · cases r with
      | nil => rw [en] at h; change (c == 10) = true at h; rw [hc] at h; cases h
      | cons d q =>
        obtain ⟨t, r', h1, h2⟩ := en_cut (d :: q) (by simp) h
        refine ⟨c :: t, r', ?_, by rw [h2]; rfl⟩
        unfold nl at h1 ⊢
        rw [List.all_cons, h1, hc]; rfl
    · exact ⟨[], r, rfl, by rw [eq_of_beq hc]; rfl⟩
theorem snoc (s : Str) (h : s ≠ []) : ∃ p c, s = p ++ [c] := ⟨s.dropLast, s.getLast h, (List.dropLast_concat_getLast h).symm⟩
theorem suf_len (p : Str) (c : UInt8) (h : p.length ≤ 1000000) : w64 (ln (p ++ [c]) - ln ([10] : Str)) = ((p.length : Nat) : Int) := by
  unfold ln
  rw [List.length_append]
  simp only [List.length_cons, List.length_nil]
  rw [w64_id (by omega) (by omega)]
  omega
theorem suf_x (p : Str) (c : UInt8) (h : p.length ≤ 1000000) : stringslite_HasSuffix (p ++ [c]) [10] = some (c == 10) := by
  have e : sub (p ++ [c]) ((p.length : Nat) : Int) (ln (p ++ [c])) = [c] := by
    unfold sub ln
    rw [List.length_append]
    simp only [Int.toNat_natCast, List.length_cons, List.length_nil]
    rw [List.drop_left, show p.length + (0 + 1) - p.length = 1 from by omega]
    rfl
  have hl : decide ((ln ([10] : Str)) ≤ (ln (p ++ [c]))) = true := by
    refine decide_eq_true ?_
    unfold ln
    rw [List.length_append]
    simp only [List.length_cons, List.length_nil]
    omega
  unfold stringslite_HasSuffix
  rw [suf_len p c h, e, hl, cond_true, chk_pos (fun _ => by unfold ln; rw [List.length_append]; omega), lt_eq]
  show some (c == 10 && true) = _
  rw [Bool.and_true]
theorem trim_x (p : Str) (h : p.length ≤ 1000000) : strings_TrimSuffix (p ++ [10]) [10] = some p := by
  have e : sub (p ++ [10]) 0 ((p.length : Nat) : Int) = p := by
    unfold sub
    simp only [Int.toNat_natCast]
    show List.take (p.length - 0) (List.drop 0 (p ++ [10])) = p
    rw [List.drop_zero, Nat.sub_zero, List.take_left]
  unfold strings_TrimSuffix stringslite_TrimSuffix
  rw [suf_x p 10 h, Option.bind_some, show ((10 : UInt8) == 10) = true from rfl, cond_true, suf_len p 10 h, chk_pos (by unfold ln; rw [List.length_append]; omega), e]
  rfl
theorem cnt_x (m : Nat) (s : Str) : strings_Count m s [10] = some ((s.count 10 : Nat) : Int) := rfl
theorem cnt_nl : ∀ t : Str, nl t = true → t.count 10 = 0
  | [], _ => rfl
  | c :: t, h => by
    obtain ⟨hc, ht⟩ := nl_cons h
    rw [List.count_cons, cnt_nl t ht, hc]
    rfl
/-! ## Logs -/
theorem shown_nl (a : TAnswer) (h : In 91000 a) : nl (shown a) = true := by
  have h1 := shown_show a h
  unfold nl
  refine List.all_eq_true.2 fun c hc => ?_
  have h2 := showB_iff.1 (List.all_eq_true.1 h1 c hc)
  have : (c == 10) = false := by
    refine beq_eq_false_iff_ne.2 fun e => ?_
    subst e
    exact absurd h2.1 (by decide)
  rw [this]; rfl
abbrev Ok (l : List TAnswer) : Prop := ∀ x ∈ l, In 91000 x ∧ okA x = true
theorem textS_cons (a : TAnswer) (l : List TAnswer) : textS (a :: l) = shown a ++ 10 :: textS l := by
  unfold textS
  rw [List.flatMap_cons, List.append_assoc]
  rfl
theorem cnt_textS : ∀ l : List TAnswer, Ok l → (textS l).count 10 = l.length
  | [], _ => rfl
  | a :: l, h => by
    rw [textS_cons, List.count_append, cnt_nl _ (shown_nl a (h a List.mem_cons_self).1), List.count_cons, cnt_textS l fun x hx => h x (List.mem_cons_of_mem _ hx)]
    simp
theorem en_textS : ∀ l : List TAnswer, en (textS l) = true
  | [] => rfl
  | a :: l => by
    rw [textS_cons]
    have h := en_textS l
    have key : ∀ (t r : Str), en r = true → en (t ++ 10 :: r) = true := by
      intro t
      induction t with
      | nil => intro r hr; cases r with
        | nil => rfl
        | cons d q => exact hr
      | cons c t ih =>
        intro r hr
        have : (t ++ 10 :: r).isEmpty = false := by cases t <;> rfl
        rw [List.cons_append, en, this, cond_false]
        exact ih r hr
    exact key _ _ h
theorem rt_L1 : ∀ (l : List TAnswer) (kk : Nat) (acc : List TAnswer), Ok l → l.length < kk → acc.length + l.length ≤ 1000 → answer_ReadText_L1 91000 kk (textS l) acc = some (acc ++ l, 0) := by
  intro l
  induction l with
  | nil =>
    intro kk acc _ hk _
    obtain ⟨k, rfl⟩ : ∃ k, kk = k + 1 := ⟨kk - 1, by simp only [List.length_nil] at hk; omega⟩
    rw [answer_ReadText_L1, List.append_nil]
    rfl
  | cons a l ih =>
    intro kk acc h hk ha
    simp only [List.length_cons] at hk ha
    obtain ⟨k, rfl⟩ : ∃ k, kk = k + 1 := ⟨kk - 1, by omega⟩
    have hx := h a List.mem_cons_self
    have hsl := shown_len a hx.1 hx.2
    obtain ⟨e1, e2⟩ := lnT_app (shown a) (textS l) (shown_nl a hx.1)
    rw [answer_ReadText_L1, textS_cons, e1, e2, show decide (0 < ln (shown a ++ 10 :: textS l)) = true from decide_eq_true (by unfold ln; rw [List.length_append]; simp only [List.length_cons]; omega), cond_true, trim_x _ (by omega), Option.bind_some, pread_shown a hx.1 hx.2, Option.bind_some]
    dsimp only
    rw [show ((0 : Int) != 0) = false from rfl, cond_false, chk_pos (by unfold ln; simp only [List.length_cons, List.length_nil]; omega), lt_eq, ih k (acc ++ [a]) (fun x hx => h x (List.mem_cons_of_mem _ hx)) (by omega) (by simp only [List.length_append, List.length_cons, List.length_nil]; omega), List.append_assoc]
    rfl
theorem rt_inv : ∀ (kk : Nat) (v : Str) (acc : List TAnswer), v.length < kk → en v = true → v.length ≤ 90000 → acc.length + v.length ≤ 200000 →
    answer_ReadText_L1 91000 kk v acc = some ([], 12) ∨ ∃ l, v = textS l ∧ Ok l ∧ answer_ReadText_L1 91000 kk v acc = some (acc ++ l, 0) := by
  intro kk
  induction kk with
  | zero => intro v acc h; omega
  | succ kk ih =>
    intro v acc hk he hv ha
    by_cases h0 : v = []
    · subst h0
      refine .inr ⟨[], rfl, fun x hx => (by cases hx), ?_⟩
      rw [answer_ReadText_L1, List.append_nil]
      rfl
    · obtain ⟨t, r, ht, rfl⟩ := en_cut v h0 he
      obtain ⟨e1, e2⟩ := lnT_app t r ht
      rw [List.length_append] at hk hv ha
      simp only [List.length_cons] at hk hv ha
      obtain ⟨b, e, h1, h2⟩ := pread 91000 (by decide) t (by omega)
      rw [answer_ReadText_L1, e1, e2, show decide (0 < ln (t ++ 10 :: r)) = true from decide_eq_true (by unfold ln; rw [List.length_append]; simp only [List.length_cons]; omega), cond_true, trim_x _ (by omega), Option.bind_some, h1, Option.bind_some]
      dsimp only
      rcases h2 with ⟨rfl, hi, ho, hs⟩ | ⟨rfl, _, _⟩ | ⟨_, _, h9⟩
      · rw [show ((0 : Int) != 0) = false from rfl, cond_false, chk_pos (by unfold ln; simp only [List.length_cons, List.length_nil]; omega), lt_eq]
        rcases ih r (acc ++ [b]) (by omega) (en_app t r he) (by omega) (by simp only [List.length_append, List.length_cons, List.length_nil]; omega) with h | ⟨l, h3, h4, h5⟩
        · exact .inl h
        · refine .inr ⟨b :: l, by rw [textS_cons, hs, h3], fun x hx => ?_, by rw [h5, List.append_assoc]; rfl⟩
          rcases List.mem_cons.1 hx with rfl | hx
          · exact ⟨hi, ho⟩
          · exact h4 x hx
      · exact .inl rfl
      · omega
theorem rt_nil : answer_ReadText 91000 [] = some ([], 0) := by kernel_rfl
theorem rt_any (s : Str) (hs : s.length ≤ 90000) : answer_ReadText 91000 s = some ([], 12) ∨ ∃ l, s = textS l ∧ l.length ≤ 60 ∧ Ok l ∧ answer_ReadText 91000 s = some (l, 0) := by
  by_cases h0 : s = []
  · subst h0
    exact .inr ⟨[], rfl, by decide, fun x hx => (by cases hx), rt_nil⟩
  · obtain ⟨p, c, rfl⟩ := snoc s h0
    have hp : p.length ≤ 1000000 := by rw [List.length_append] at hs; omega
    have hne : (p ++ [c] == ([] : Str)) = false := beq_eq_false_iff_ne.2 h0
    have hl : decide ((5400000 : Int) < ln (p ++ [c])) = false := decide_eq_false (by unfold ln; omega)
    unfold answer_ReadText strings_HasSuffix
    rw [hl, cond_false, hne, Bool.not_false, cond_true, suf_x p c hp, Option.bind_some, Option.bind_some, cond_true]
    cases hc : (c == 10)
    · exact .inl rfl
    · rw [Bool.not_true, cond_false, cnt_x, Option.bind_some, cond_false, lt_eq]
      by_cases h6 : (60 : Int) < (((p ++ [c]).count 10 : Nat) : Int)
      · rw [decide_eq_true h6, cond_true]
        exact .inl rfl
      · have he : en (p ++ [c]) = true := by rw [en_last]; exact hc
        rw [decide_eq_false h6, cond_false]
        unfold strings_Lines
        rw [lt_eq, chk_pos (by unfold ln; omega)]
        rcases rt_inv 91000 (p ++ [c]) [] (by omega) he hs (by simp only [List.length_nil]; omega) with h | ⟨l, h1, h2, h3⟩
        · exact .inl h
        · refine .inr ⟨l, h1, ?_, h2, by rw [h3]; rfl⟩
          rw [h1, cnt_textS l h2] at h6
          omega
theorem rt_text (l : List TAnswer) (h : l.length ≤ 60) (ho : Ok l) (hl : (textS l).length ≤ 90000) : answer_ReadText 91000 (textS l) = some (l, 0) := by
  by_cases h0 : textS l = []
  · have : l = [] := by
      cases l with
      | nil => rfl
      | cons a l => rw [textS_cons] at h0; simp at h0
    subst this
    exact rt_nil
  · obtain ⟨p, c, hpc⟩ := snoc (textS l) h0
    have hp : p.length ≤ 1000000 := by rw [hpc, List.length_append] at hl; omega
    have he := en_textS l
    rw [hpc, en_last] at he
    have hne : (textS l == ([] : Str)) = false := beq_eq_false_iff_ne.2 h0
    have hlt : decide ((5400000 : Int) < ln (textS l)) = false := decide_eq_false (by unfold ln; omega)
    have hsuf : stringslite_HasSuffix (textS l) [10] = some true := by rw [hpc, suf_x p c hp, he]
    unfold answer_ReadText strings_HasSuffix
    rw [hlt, cond_false, hne, Bool.not_false, cond_true, hsuf, Option.bind_some, Option.bind_some, cond_true, Bool.not_true, cond_false, cnt_x, Option.bind_some, cond_false, lt_eq, cnt_textS l ho, decide_eq_false (by omega), cond_false]
    unfold strings_Lines
    rw [lt_eq, chk_pos (by unfold ln; omega), rt_L1 l 91000 [] ho (by omega) (by simp only [List.length_nil]; omega)]
    rfl
/-! ## The reference's lines -/
def spS : Str → Str → List Str × Str
  | cur, [] => ([], cur)
  | cur, c :: r => cond (c == 10) (cur :: (spS [] r).1, (spS [] r).2) (spS (cur ++ [c]) r)
theorem spS_app : ∀ (t cur r : Str), nl t = true → spS cur (t ++ 10 :: r) = ((cur ++ t) :: (spS [] r).1, (spS [] r).2)
  | [], cur, r, _ => by rw [List.nil_append, spS, List.append_nil]; rfl
  | c :: t, cur, r, h => by
    obtain ⟨hc, ht⟩ := nl_cons h
    rw [List.cons_append, spS, hc, cond_false, spS_app t (cur ++ [c]) r ht, List.append_assoc]
    rfl
theorem spS_text : ∀ l : List TAnswer, Ok l → spS [] (textS l) = (l.map shown, [])
  | [], _ => rfl
  | a :: l, h => by
    rw [textS_cons, spS_app _ _ _ (shown_nl a (h a List.mem_cons_self).1), spS_text l fun x hx => h x (List.mem_cons_of_mem _ hx)]
    rfl
theorem sub_snoc {s : Str} {a i : Nat} (h : a ≤ i) (hi : i < s.length) : sub s (a : Int) ((i + 1 : Nat) : Int) = sub s (a : Int) (i : Int) ++ [s[i]] := by
  unfold sub
  simp only [Int.toNat_natCast]
  rw [show i + 1 - a = (i - a) + 1 from by omega, List.take_add_one]
  congr 1
  rw [List.getElem?_drop, show a + (i - a) = i from by omega, List.getElem?_eq_getElem hi]
  rfl
theorem sub_self (s : Str) (i : Nat) : sub s (i : Int) (i : Int) = [] := by
  unfold sub
  simp
theorem sp_L1 (s : Str) (hs : s.length ≤ 90000) : ∀ (kk i a : Nat) (v : List Str), s.length - i < kk → i ≤ s.length → a ≤ i → v.length ≤ i →
    r40_Split_L1 91000 s kk v (a : Int) (i : Int) = some (v ++ (spS (sub s (a : Int) (i : Int)) (s.drop i)).1, ((s.length - (spS (sub s (a : Int) (i : Int)) (s.drop i)).2.length : Nat) : Int)) := by
  intro kk
  induction kk with
  | zero => intro i a v h; omega
  | succ kk ih =>
    intro i a v hk hi ha hv
    rw [r40_Split_L1]
    by_cases h1 : i < s.length
    · have hb : bat s (i : Int) = ((s[i].toNat : Nat) : Int) := by
        have hd := List.drop_eq_getElem_cons h1
        exact (bat_drop hd).2.1
      rw [show decide ((i : Int) < ln s) = true from lt_dec h1, cond_true, chk_ix h1, hb, List.drop_eq_getElem_cons h1, spS]
      have hcc : (((s[i].toNat : Nat) : Int) == 10) = (s[i] == 10) := by
        by_cases e : s[i] = 10
        · rw [e]; rfl
        · rw [beq_eq_false_iff_ne.2 e]
          refine beq_eq_false_iff_ne.2 fun e2 => e ?_
          have : s[i].toNat = 10 := by omega
          exact UInt8.toNat_inj.1 this
      rw [hcc]
      cases hc : (s[i] == 10)
      · rw [cond_false, cond_false, Option.bind_some, w64_ix (by omega)]
        dsimp only
        rw [ih (i + 1) a v (by omega) (by omega) (by omega) (by omega), sub_snoc ha h1]
      · rw [cond_true, cond_true, chk_pos (by unfold ln; omega), chk_pos (by unfold ln; simp only [List.length_cons, List.length_nil]; omega), lt_eq, Option.bind_some, w64_ix (by omega)]
        dsimp only
        rw [ih (i + 1) (i + 1) _ (by omega) (by omega) (by omega) (by simp only [List.length_append, List.length_cons, List.length_nil]; omega), sub_self, List.append_assoc]
        rfl
    · have e : i = s.length := by omega
      subst e
      rw [show decide ((s.length : Int) < ln s) = false from ge_dec (Nat.le_refl _), cond_false, List.drop_length, spS, List.append_nil]
      have : (sub s (a : Int) (s.length : Int)).length = s.length - a := by
        unfold sub
        simp only [Int.toNat_natCast, List.length_take, List.length_drop]
        omega
      rw [this, show s.length - (s.length - a) = a from by omega]
theorem split_eq (s : Str) (hs : s.length ≤ 90000) : r40_Split 91000 s = some ((spS [] s).1, decide ((spS [] s).2.length = 0 ∨ s.length = 0)) := by
  have h := sp_L1 s hs 91000 0 0 [] (by omega) (by omega) (by omega) (by simp)
  rw [sub_self, List.drop_zero] at h
  have hlen : ∀ (r cur : Str), (spS cur r).2.length ≤ cur.length + r.length := by
    intro r
    induction r with
    | nil => intro cur; rw [spS]; simp
    | cons c r ih =>
      intro cur
      rw [spS]
      cases (c == 10)
      · have := ih (cur ++ [c])
        rw [cond_false]
        simp only [List.length_append, List.length_cons, List.length_nil] at this ⊢
        omega
      · have := ih []
        rw [cond_true]
        simp only [List.length_cons, List.length_nil] at this ⊢
        omega
  have hl := hlen s []
  unfold r40_Split
  rw [show r40_Split_L1 91000 s 91000 [] 0 0 = _ from h, Option.bind_some]
  dsimp only
  rw [List.nil_append]
  congr 2
  unfold ln
  simp only [List.length_nil, Nat.zero_add] at hl
  by_cases hz : (spS [] s).2.length = 0 ∨ s.length = 0
  · rw [decide_eq_true hz]
    have : s.length - (spS [] s).2.length = s.length := by omega
    rw [this]
    exact beq_self_eq_true _
  · rw [decide_eq_false hz]
    refine beq_eq_false_iff_ne.2 ?_
    omega
end Go.Proofs.YtipafpkdkhnjmaaGreatDoor

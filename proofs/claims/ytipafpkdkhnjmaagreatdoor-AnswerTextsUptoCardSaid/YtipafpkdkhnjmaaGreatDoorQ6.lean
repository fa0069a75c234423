/-
  Answers as text: the reference's reader, whole. No program in sight.
-/
import Derived.Test.YtipafpkdkhnjmaaGreatDoorQ5
set_option linter.unusedVariables false
set_option maxRecDepth 100000
namespace Go.Proofs.YtipafpkdkhnjmaaGreatDoor
open Go Go.V Go.RowKit
theorem bat_z {c : UInt8} {r : Str} : bat (c :: r) 0 = ((c.toNat : Nat) : Int) := rfl
theorem len_z {c : UInt8} {r : Str} : decide ((0 : Int) < ln (c :: r)) = true := decide_eq_true (by unfold ln; simp only [List.length_cons]; omega)
theorem t_L1_ok (m : Nat) (hm2 : 300 < m) (R : Str) (c : UInt8) (hc : c ≠ 34) (hc2 : c ≠ 44) : ∀ (l : List Str) (t : Str) (kk : Nat) (acc : List Str), (qt t ++ ((l.map qt).flatMap ([44, 32] ++ ·) ++ c :: R)).length < 1000000000 → (∀ x ∈ t :: l, x.length < m) → l.length + 1 < kk → acc.length + l.length ≤ 63 →
    r40_ReadLine_L1 m kk (qt t ++ ((l.map qt).flatMap ([44, 32] ++ ·) ++ c :: R)) acc = some (.inr (c :: R, acc ++ t :: l)) := by
  have last : ∀ (kk : Nat) (acc : List Str), r40_ReadLine_L1 m (kk + 1) (c :: R) acc = some (.inr (c :: R, acc)) := by
    intro kk acc
    rw [r40_ReadLine_L1, len_z, chk_pos (fun _ => ⟨by omega, of_decide_eq_true len_z⟩), cond_true, bat_z, show (((c.toNat : Nat) : Int) == 34) = false from beq_eq_false_iff_ne.2 (fun e => hc (UInt8.toNat_inj.1 (by show c.toNat = 34; omega))), lt_eq, cond_false, cond_false]
  intro l
  induction l with
  | nil =>
    intro t kk acc hl hm hk ha
    obtain ⟨k, rfl⟩ : ∃ k, kk = k + 2 := ⟨kk - 2, by simp at hk; omega⟩
    have htm := hm t List.mem_cons_self
    have hb : qt t ++ ((([] : List Str).map qt).flatMap ([44, 32] ++ ·) ++ c :: R) = 34 :: (chs t ++ [34] ++ c :: R) := rfl
    have hq : r40_quoted m (qt t ++ ((([] : List Str).map qt).flatMap ([44, 32] ++ ·) ++ c :: R)) = some (t, c :: R, true) := q_ok m t (c :: R) hl htm hm2
    rw [show k + 2 = (k + 1) + 1 from rfl, r40_ReadLine_L1, hq, hb, len_z, chk_pos (fun _ => ⟨by omega, of_decide_eq_true len_z⟩), cond_true, bat_z, show ((((34 : UInt8).toNat : Nat) : Int) == 34) = true from rfl, lt_eq, show decide (ln acc ≤ 64) = true from decide_eq_true (by unfold ln; omega), cond_true, cond_true, Option.bind_some, Bool.not_true, cond_false, chk_pos (by unfold ln; simp only [List.length_cons, List.length_nil]; omega), lt_eq]
    dsimp only
    rw [len_z, chk_pos (fun _ => ⟨by omega, of_decide_eq_true len_z⟩), cond_true, bat_z, show (((c.toNat : Nat) : Int) == 44) = false from beq_eq_false_iff_ne.2 (fun e => hc2 (UInt8.toNat_inj.1 (by show c.toNat = 44; omega))), lt_eq, cond_false, last]
  | cons t2 l ih =>
    intro t kk acc hl hm hk ha
    obtain ⟨k, rfl⟩ : ∃ k, kk = k + 1 := ⟨kk - 1, by simp at hk; omega⟩
    have htm := hm t List.mem_cons_self
    simp only [List.length_cons] at hk ha
    have e : ((t2 :: l).map qt).flatMap ([44, 32] ++ ·) ++ c :: R = 44 :: 32 :: (qt t2 ++ ((l.map qt).flatMap ([44, 32] ++ ·) ++ c :: R)) := by
      rw [List.map_cons, List.flatMap_cons]; simp
    rw [e] at hl ⊢
    have hl2 : (qt t2 ++ ((l.map qt).flatMap ([44, 32] ++ ·) ++ c :: R)).length < 1000000000 := by
      rw [List.length_append, List.length_cons, List.length_cons] at hl; omega
    have hq := q_ok m t (44 :: 32 :: (qt t2 ++ ((l.map qt).flatMap ([44, 32] ++ ·) ++ c :: R))) hl htm hm2
    have hb : qt t ++ 44 :: 32 :: (qt t2 ++ ((l.map qt).flatMap ([44, 32] ++ ·) ++ c :: R)) = 34 :: (chs t ++ [34] ++ 44 :: 32 :: (qt t2 ++ ((l.map qt).flatMap ([44, 32] ++ ·) ++ c :: R))) := rfl
    rw [r40_ReadLine_L1, hq, hb, len_z, chk_pos (fun _ => ⟨by omega, of_decide_eq_true len_z⟩), cond_true, bat_z, show ((((34 : UInt8).toNat : Nat) : Int) == 34) = true from rfl, lt_eq, show decide (ln acc ≤ 64) = true from decide_eq_true (by unfold ln; omega), cond_true, cond_true, Option.bind_some, Bool.not_true, cond_false, chk_pos (by unfold ln; simp only [List.length_cons, List.length_nil]; omega), lt_eq]
    dsimp only
    have ha2 : r40_after (44 :: 32 :: (qt t2 ++ ((l.map qt).flatMap ([44, 32] ++ ·) ++ c :: R))) 2 = some (qt t2 ++ ((l.map qt).flatMap ([44, 32] ++ ·) ++ c :: R)) := after_eq _ 2
    rw [len_z, chk_pos (fun _ => ⟨by omega, of_decide_eq_true len_z⟩), cond_true, bat_z, show ((((44 : UInt8).toNat : Nat) : Int) == 44) = true from rfl, lt_eq, cond_true, ha2, Option.bind_some, ih t2 k (acc ++ [t]) hl2 (fun x hx => hm x (List.mem_cons_of_mem _ hx)) (by omega) (by simp; omega), List.append_assoc]
    rfl
theorem t_L1_tot (m : Nat) (hm2 : 300 < m) : ∀ (kk : Nat) (u : Str) (ts : List Str), u.length < kk → u.length < m → u.length < 1000000000 → ts.length ≤ 65 →
    ∃ z, r40_ReadLine_L1 m kk u ts = some z ∧ (z = .inl (TAnswer.mk 0 0 [] [], 12) ∨ ∃ (r : Str) (ts' : List Str), z = .inr (r, ts') ∧ r.length ≤ u.length ∧ tot ts' + r.length ≤ tot ts + u.length ∧ ts'.length ≤ 65) := by
  intro kk
  induction kk with
  | zero => intro u ts h; omega
  | succ kk ih =>
    intro u ts hk hm hu hts
    rw [r40_ReadLine_L1, chk_pos (fun h => ⟨by omega, of_decide_eq_true h⟩), lt_eq]
    cases hc : cond (cond (decide (0 < ln u)) (bat u 0 == 34) false) (decide (ln ts ≤ 64)) false with
    | false => exact ⟨_, rfl, Or.inr ⟨u, ts, rfl, Nat.le_refl _, Nat.le_refl _, hts⟩⟩
    | true =>
      have h64 : ts.length ≤ 64 := by
        cases h1 : cond (decide (0 < ln u)) (bat u 0 == 34) false with
        | false => rw [h1] at hc; cases hc
        | true => rw [h1, cond_true] at hc; have := of_decide_eq_true hc; unfold ln at this; omega
      obtain ⟨t, r, ok, g1, g2⟩ := q_tot m u hu hm hm2
      rw [cond_true, g1, Option.bind_some]
      cases ok with
      | false => exact ⟨_, rfl, Or.inl rfl⟩
      | true =>
        have g2 := g2 rfl
        have et : tot (ts ++ [t]) = tot ts + t.length := by rw [tot_app]; simp [tot]
        rw [Bool.not_true, cond_false, chk_pos (by unfold ln; simp only [List.length_cons, List.length_nil]; omega), lt_eq]
        dsimp only
        rw [chk_pos (fun h => ⟨by omega, of_decide_eq_true h⟩), lt_eq]
        cases cond (decide (0 < ln r)) (bat r 0 == 44) false with
        | false =>
          rw [cond_false]
          obtain ⟨z, z1, z2⟩ := ih r (ts ++ [t]) (by omega) (by omega) (by omega) (by simp <;> omega)
          refine ⟨z, z1, ?_⟩
          rcases z2 with h | ⟨r2, ts2, h1, h2, h3, h4⟩
          · exact Or.inl h
          · exact Or.inr ⟨r2, ts2, h1, by omega, by omega, h4⟩
        | true =>
          have hd : (r.drop 2).length ≤ r.length := by rw [List.length_drop]; omega
          rw [cond_true, show r40_after r 2 = some (r.drop 2) from after_eq r 2, Option.bind_some]
          obtain ⟨z, z1, z2⟩ := ih (r.drop 2) (ts ++ [t]) (by omega) (by omega) (by omega) (by simp <;> omega)
          refine ⟨z, z1, ?_⟩
          rcases z2 with h | ⟨r2, ts2, h1, h2, h3, h4⟩
          · exact Or.inl h
          · exact Or.inr ⟨r2, ts2, h1, by omega, by omega, h4⟩
theorem setl_last (acc : List Int) (y : Int) (h : acc.length < 1000000) : setl (acc ++ [0]) (w64 (ln (acc ++ [0]) - 1)) y = acc ++ [y] := by
  have e : w64 (ln (acc ++ [0]) - 1) = (acc.length : Int) := by unfold ln; rw [List.length_append, w64_id (by simp only [List.length_cons, List.length_nil]; omega) (by simp only [List.length_cons, List.length_nil]; omega)]; simp
  rw [e]
  unfold setl
  rw [Int.toNat_natCast, List.set_append_right _ _ (Nat.le_refl _), Nat.sub_self]
  rfl
theorem last_ck (acc : List Int) (h : acc.length < 1000000) : 0 ≤ w64 (ln (acc ++ [0]) - 1) ∧ w64 (ln (acc ++ [0]) - 1) < ln (acc ++ [0]) := by
  have e : w64 (ln (acc ++ [0]) - 1) = (acc.length : Int) := by unfold ln; rw [List.length_append, w64_id (by simp only [List.length_cons, List.length_nil]; omega) (by simp only [List.length_cons, List.length_nil]; omega)]; simp
  rw [e]
  unfold ln
  rw [List.length_append, List.length_cons, List.length_nil]; omega
theorem n_L2_ok (m : Nat) (hm2 : 300 < m) : ∀ (l : List Int) (t : Int) (kk : Nat) (acc : List Int), (Lib.itoa t ++ ((l.map Lib.itoa).flatMap ([44, 32] ++ ·) ++ [93])).length < 1000000000 → (Lib.itoa t ++ ((l.map Lib.itoa).flatMap ([44, 32] ++ ·) ++ [93])).length < m → (∀ x ∈ t :: l, In64 x) → l.length < kk → acc.length + l.length ≤ 63 →
    r40_ReadLine_L2 m kk (Lib.itoa t ++ ((l.map Lib.itoa).flatMap ([44, 32] ++ ·) ++ [93])) acc = some (acc ++ t :: l) := by
  intro l
  induction l with
  | nil =>
    intro t kk acc hl hlm hm hk ha
    obtain ⟨k, rfl⟩ : ∃ k, kk = k + 1 := ⟨kk - 1, by simp at hk; omega⟩
    have htm := hm t List.mem_cons_self
    obtain ⟨c0, q0, hq0, _⟩ := itoa_head htm
    have hn : r40_number m (Lib.itoa t ++ ((([] : List Int).map Lib.itoa).flatMap ([44, 32] ++ ·) ++ [93])) = some (t, [93]) := rnum_ok m htm (c := 93) rfl [] hl hlm (by omega)
    have hlen : decide ((1 : Int) < ln (Lib.itoa t ++ ((([] : List Int).map Lib.itoa).flatMap ([44, 32] ++ ·) ++ [93]))) = true := decide_eq_true (by
      show (1 : Int) < ln (Lib.itoa t ++ [93])
      unfold ln; rw [hq0]; simp; omega)
    rw [r40_ReadLine_L2, hlen, show decide (ln acc ≤ 64) = true from decide_eq_true (by unfold ln; omega), lt_eq, cond_true, cond_true, chk_pos (by unfold ln; simp only [List.length_cons, List.length_nil]; omega), lt_eq, hn, Option.bind_some, chk_pos (last_ck acc (by omega)), setl_last acc t (by omega), lt_eq]
    dsimp only
    rw [len_z, chk_pos (fun _ => ⟨by omega, of_decide_eq_true len_z⟩), cond_true, bat_z, show ((((93 : UInt8).toNat : Nat) : Int) == 44) = false from rfl, lt_eq, cond_false]
  | cons t2 l ih =>
    intro t kk acc hl hlm hm hk ha
    obtain ⟨k, rfl⟩ : ∃ k, kk = k + 1 := ⟨kk - 1, by simp at hk; omega⟩
    have htm := hm t List.mem_cons_self
    simp only [List.length_cons] at hk ha
    obtain ⟨c0, q0, hq0, _⟩ := itoa_head htm
    have e : ((t2 :: l).map Lib.itoa).flatMap ([44, 32] ++ ·) ++ [93] = 44 :: 32 :: (Lib.itoa t2 ++ ((l.map Lib.itoa).flatMap ([44, 32] ++ ·) ++ [93])) := by
      rw [List.map_cons, List.flatMap_cons]; simp
    rw [e] at hl hlm ⊢
    have hln : (Lib.itoa t ++ 44 :: 32 :: (Lib.itoa t2 ++ ((l.map Lib.itoa).flatMap ([44, 32] ++ ·) ++ [93]))).length = (Lib.itoa t).length + ((Lib.itoa t2 ++ ((l.map Lib.itoa).flatMap ([44, 32] ++ ·) ++ [93])).length + 1 + 1) := by
      rw [List.length_append, List.length_cons, List.length_cons]
    have hn := rnum_ok m htm (c := 44) rfl (32 :: (Lib.itoa t2 ++ ((l.map Lib.itoa).flatMap ([44, 32] ++ ·) ++ [93]))) hl hlm (by omega)
    have hlen : decide ((1 : Int) < ln (Lib.itoa t ++ 44 :: 32 :: (Lib.itoa t2 ++ ((l.map Lib.itoa).flatMap ([44, 32] ++ ·) ++ [93])))) = true := decide_eq_true (by unfold ln; omega)
    rw [r40_ReadLine_L2, hlen, show decide (ln acc ≤ 64) = true from decide_eq_true (by unfold ln; omega), lt_eq, cond_true, cond_true, chk_pos (by unfold ln; simp only [List.length_cons, List.length_nil]; omega), lt_eq, hn, Option.bind_some, chk_pos (last_ck acc (by omega)), setl_last acc t (by omega), lt_eq]
    dsimp only
    have ha2 : r40_after (44 :: 32 :: (Lib.itoa t2 ++ ((l.map Lib.itoa).flatMap ([44, 32] ++ ·) ++ [93]))) 2 = some (Lib.itoa t2 ++ ((l.map Lib.itoa).flatMap ([44, 32] ++ ·) ++ [93])) := after_eq _ 2
    rw [len_z, chk_pos (fun _ => ⟨by omega, of_decide_eq_true len_z⟩), cond_true, bat_z, show ((((44 : UInt8).toNat : Nat) : Int) == 44) = true from rfl, lt_eq, cond_true, ha2, Option.bind_some, ih t2 k (acc ++ [t]) (by omega) (by omega) (fun x hx => hm x (List.mem_cons_of_mem _ hx)) (by omega) (by simp; omega), List.append_assoc]
    rfl
theorem n_L2_tot (m : Nat) (hm2 : 300 < m) : ∀ (kk : Nat) (u : Str) (ns : List Int), u.length < kk → u.length < m → u.length < 1000000000 → ns.length ≤ 65 → (∀ n ∈ ns, In64 n) →
    ∃ ns', r40_ReadLine_L2 m kk u ns = some ns' ∧ ns'.length ≤ 65 ∧ ∀ n ∈ ns', In64 n := by
  intro kk
  induction kk with
  | zero => intro u ns h; omega
  | succ kk ih =>
    intro u ns hk hm hu hns hin
    rw [r40_ReadLine_L2, lt_eq]
    cases hc : cond (decide (1 < ln u)) (decide (ln ns ≤ 64)) false with
    | false => exact ⟨ns, rfl, hns, hin⟩
    | true =>
      have h64 : ns.length ≤ 64 ∧ 1 < u.length := by
        cases h1 : decide (1 < ln u) with
        | false => rw [h1] at hc; cases hc
        | true =>
          rw [h1, cond_true] at hc
          have a := of_decide_eq_true hc
          have b := of_decide_eq_true h1
          unfold ln at a b; omega
      obtain ⟨n, r, g1, g2, g3⟩ := rnum_in m u hu hm (by omega)
      have hin2 : ∀ q ∈ ns ++ [n], In64 q := fun q hq => by
        rcases List.mem_append.1 hq with h | h
        · exact hin q h
        · have : q = n := by simpa using h
          rw [this]; exact g2
      rw [cond_true, chk_pos (by unfold ln; simp only [List.length_cons, List.length_nil]; omega), lt_eq, g1, Option.bind_some, chk_pos (last_ck ns (by omega)), setl_last ns n (by omega), lt_eq]
      dsimp only
      rw [chk_pos (fun h => ⟨by omega, of_decide_eq_true h⟩), lt_eq]
      cases hr : cond (decide (0 < ln r)) (bat r 0 == 44) false with
      | false => exact ⟨_, rfl, by simp; omega, hin2⟩
      | true =>
        have h0 : 0 < r.length := by
          cases h1 : decide (0 < ln r) with
          | false => rw [h1] at hr; cases hr
          | true => have := of_decide_eq_true h1; unfold ln at this; omega
        have hd : (r.drop 2).length < u.length := by rw [List.length_drop]; omega
        rw [cond_true, show r40_after r 2 = some (r.drop 2) from after_eq r 2, Option.bind_some]
        exact ih (r.drop 2) (ns ++ [n]) (by omega) (by omega) (by omega) (by simp; omega) hin2
/-- The reference reads what it shows. -/
theorem rread_ok (m : Nat) (hm : m ≤ 1000000) (hm2 : 300 < m) (a : TAnswer) (h : In m a) (ho : okA a = true) (hl : (shown a).length < m) (hl9 : (shown a).length ≤ 90000) : r40_ReadLine m (shown a) = some (a, 0) := by
  obtain ⟨hs, hc⟩ := rshow_eq m hm (by omega) a h
  obtain ⟨⟨o1, o2⟩, o3, o4, o5⟩ := okA_iff.1 ho
  unfold r40_ReadLine
  rw [show decide ((90000 : Int) < ln (shown a)) = false from decide_eq_false (by unfold ln; omega), cond_false]
  have hlen := hl
  unfold shown at hlen
  simp only [List.length_append, List.length_cons, List.length_nil] at hlen
  have r1 : r40_number m (shown a) = some (a.Err, [32] ++ (Lib.itoa a.Num ++ ([32] ++ (ls (a.Texts.map qt) ++ ([32] ++ ls (a.Numbers.map Lib.itoa)))))) :=
    rnum_ok m h.err (c := 32) rfl (Lib.itoa a.Num ++ ([32] ++ (ls (a.Texts.map qt) ++ ([32] ++ ls (a.Numbers.map Lib.itoa))))) (show (shown a).length < _ by omega) hl (by omega)
  have r2 : r40_after ([32] ++ (Lib.itoa a.Num ++ ([32] ++ (ls (a.Texts.map qt) ++ ([32] ++ ls (a.Numbers.map Lib.itoa)))))) 1 = some (Lib.itoa a.Num ++ ([32] ++ (ls (a.Texts.map qt) ++ ([32] ++ ls (a.Numbers.map Lib.itoa))))) := after_eq _ 1
  have r3 : r40_number m (Lib.itoa a.Num ++ ([32] ++ (ls (a.Texts.map qt) ++ ([32] ++ ls (a.Numbers.map Lib.itoa))))) = some (a.Num, [32] ++ (ls (a.Texts.map qt) ++ ([32] ++ ls (a.Numbers.map Lib.itoa)))) :=
    rnum_ok m h.num (c := 32) rfl (ls (a.Texts.map qt) ++ ([32] ++ ls (a.Numbers.map Lib.itoa))) (by
      show (Lib.itoa a.Num ++ ([32] ++ (ls (a.Texts.map qt) ++ ([32] ++ ls (a.Numbers.map Lib.itoa)))) : Str).length < _
      simp only [List.length_append, List.length_cons, List.length_nil]; omega) (by
      show (Lib.itoa a.Num ++ ([32] ++ (ls (a.Texts.map qt) ++ ([32] ++ ls (a.Numbers.map Lib.itoa)))) : Str).length < _
      simp only [List.length_append, List.length_cons, List.length_nil]; omega) (by omega)
  have e4 : [32] ++ (ls (a.Texts.map qt) ++ ([32] ++ ls (a.Numbers.map Lib.itoa))) = 32 :: 91 :: (jn [44, 32] (a.Texts.map qt) ++ 93 :: 32 :: 91 :: (jn [44, 32] (a.Numbers.map Lib.itoa) ++ [93])) := by unfold ls; simp
  have r4 : r40_after ([32] ++ (ls (a.Texts.map qt) ++ ([32] ++ ls (a.Numbers.map Lib.itoa)))) 2 = some (jn [44, 32] (a.Texts.map qt) ++ 93 :: 32 :: 91 :: (jn [44, 32] (a.Numbers.map Lib.itoa) ++ [93])) := by rw [e4]; exact after_eq _ 2
  have hl4 := congrArg List.length e4
  simp only [List.length_append, List.length_cons, List.length_nil] at hl4
  have r5 : r40_ReadLine_L1 m m (jn [44, 32] (a.Texts.map qt) ++ 93 :: 32 :: 91 :: (jn [44, 32] (a.Numbers.map Lib.itoa) ++ [93])) [] = some (.inr (93 :: 32 :: 91 :: (jn [44, 32] (a.Numbers.map Lib.itoa) ++ [93]), a.Texts)) := by
    have htx := h.txt
    obtain ⟨Z, hZ⟩ : ∃ Z : Str, Z = 32 :: 91 :: (jn [44, 32] (a.Numbers.map Lib.itoa) ++ [93]) := ⟨_, rfl⟩
    have hZl : Z.length = (jn [44, 32] (a.Numbers.map Lib.itoa)).length + 3 := by rw [hZ]; simp
    rw [← hZ]
    cases hT : a.Texts with
    | nil =>
      obtain ⟨k, rfl⟩ : ∃ k, m = k + 1 := ⟨m - 1, by omega⟩
      show r40_ReadLine_L1 (k + 1) (k + 1) (93 :: Z) [] = _
      rw [r40_ReadLine_L1, len_z, chk_pos (fun _ => ⟨by omega, of_decide_eq_true len_z⟩), cond_true, bat_z, show ((((93 : UInt8).toNat : Nat) : Int) == 34) = false from rfl, lt_eq, cond_false, cond_false]
    | cons t l =>
      have e : jn [44, 32] ((t :: l).map qt) ++ 93 :: Z = qt t ++ ((l.map qt).flatMap ([44, 32] ++ ·) ++ 93 :: Z) := by
        rw [List.map_cons]; unfold jn; rw [List.append_assoc]
      rw [hT] at hl4 o3 htx
      simp only [List.length_cons] at o3
      have hlx : (qt t ++ ((l.map qt).flatMap ([44, 32] ++ ·) ++ 93 :: Z)).length < 1000000000 := by
        rw [← e, List.length_append, List.length_cons]
        rw [hT] at hlen
        omega
      rw [e]
      exact t_L1_ok m hm2 Z 93 (by decide) (by decide) l t m [] hlx htx (by omega) (by simp; omega)
  have r6 : r40_after (93 :: 32 :: 91 :: (jn [44, 32] (a.Numbers.map Lib.itoa) ++ [93])) 3 = some (jn [44, 32] (a.Numbers.map Lib.itoa) ++ [93]) := after_eq _ 3
  have r7 : r40_ReadLine_L2 m m (jn [44, 32] (a.Numbers.map Lib.itoa) ++ [93]) [] = some a.Numbers := by
    have hns := h.nums
    cases hN : a.Numbers with
    | nil =>
      obtain ⟨k, rfl⟩ : ∃ k, m = k + 1 := ⟨m - 1, by omega⟩
      rfl
    | cons t l =>
      have e : jn [44, 32] ((t :: l).map Lib.itoa) ++ [93] = Lib.itoa t ++ ((l.map Lib.itoa).flatMap ([44, 32] ++ ·) ++ [93]) := by
        rw [List.map_cons]; unfold jn; rw [List.append_assoc]
      rw [hN] at hl4 o5 hns
      simp only [List.length_cons] at o5
      have hlx : (Lib.itoa t ++ ((l.map Lib.itoa).flatMap ([44, 32] ++ ·) ++ [93])).length < m := by
        rw [← e, List.length_append, List.length_cons, List.length_nil]
        rw [hN] at hlen
        omega
      rw [e]
      exact n_L2_ok m hm2 l t m [] (by omega) hlx hns (by omega) (by simp; omega)
  rw [r1, Option.bind_some, r2, Option.bind_some, r3, Option.bind_some, r4, Option.bind_some, r5, Option.bind_some]
  unfold sumK
  dsimp only
  rw [r6, Option.bind_some, r7, Option.bind_some]
  rw [show TAnswer.mk a.Err a.Num a.Texts a.Numbers = a from rfl, hc, ho, Option.bind_some, show ((cond true (0 : Int) 8) != 0) = false from rfl, cond_false, hs, Option.bind_some, cond_false, beq_self_eq_true]
  rfl
theorem mem_tot {t : Str} : ∀ {ts : List Str}, t ∈ ts → t.length ≤ tot ts
  | x :: l, h => by
    rw [tot_cons]
    rcases List.mem_cons.1 h with rfl | h
    · omega
    · have := mem_tot h; omega
/-- What the reference reads of a line: an answer that is shown so, if there is one. -/
theorem rread (m : Nat) (hm : m ≤ 1000000) (s : Str) (hm2 : s.length + 300 < m) :
    ∃ (b : TAnswer) (e : Int), r40_ReadLine m s = some (b, e) ∧ ((e = 0 ∧ In m b ∧ okA b = true ∧ shown b = s) ∨ (e = 12 ∧ b = TAnswer.mk 0 0 [] [] ∧ ∀ a, In m a → okA a = true → shown a ≠ s) ∨ (e = 28 ∧ b = TAnswer.mk 0 0 [] [] ∧ 90000 < s.length)) := by
  by_cases h9 : 90000 < s.length
  · unfold r40_ReadLine
    rw [show decide ((90000 : Int) < ln s) = true from decide_eq_true (by unfold ln; omega), cond_true]
    exact ⟨_, 28, rfl, Or.inr (Or.inr ⟨rfl, rfl, h9⟩)⟩
  · have yes : ∀ a, In m a → okA a = true → shown a = s → r40_ReadLine m s = some (a, 0) := fun a ha ho hs => by
      have := rread_ok m hm (by omega) a ha ho (by rw [hs]; omega) (by rw [hs]; omega)
      rw [hs] at this; exact this
    have body : ∃ (b : TAnswer) (e : Int), r40_ReadLine m s = some (b, e) ∧ ((e = 0 ∧ In m b ∧ okA b = true ∧ shown b = s) ∨ (e = 12 ∧ b = TAnswer.mk 0 0 [] [])) := by
      unfold r40_ReadLine
      rw [show decide ((90000 : Int) < ln s) = false from decide_eq_false (by unfold ln; omega), cond_false]
      obtain ⟨n1, r1, a1, a2, a3⟩ := rnum_in m s (by omega) (by omega) (by omega)
      have d1 : (r1.drop 1).length ≤ s.length := by rw [List.length_drop]; omega
      obtain ⟨n2, r2, b1, b2, b3⟩ := rnum_in m (r1.drop 1) (by omega) (by omega) (by omega)
      have d2 : (r2.drop 2).length ≤ s.length := by rw [List.length_drop]; omega
      obtain ⟨z, z1, z2⟩ := t_L1_tot m (by omega) m (r2.drop 2) [] (by omega) (by omega) (by omega) (by simp)
      rw [a1, Option.bind_some, show r40_after r1 1 = some (r1.drop 1) from after_eq r1 1, Option.bind_some, b1, Option.bind_some, show r40_after r2 2 = some (r2.drop 2) from after_eq r2 2, Option.bind_some, z1, Option.bind_some]
      rcases z2 with rfl | ⟨r3, ts, rfl, c1, c2, c3⟩
      · exact ⟨_, 12, rfl, Or.inr ⟨rfl, rfl⟩⟩
      · unfold sumK
        dsimp only
        have d3 : (r3.drop 3).length ≤ s.length := by rw [List.length_drop]; omega
        obtain ⟨ns, e1, e2, e3⟩ := n_L2_tot m (by omega) m (r3.drop 3) [] (by omega) (by omega) (by omega) (by simp) (fun n hn => by cases hn)
        rw [show r40_after r3 3 = some (r3.drop 3) from after_eq r3 3, Option.bind_some, e1, Option.bind_some]
        have t0 : tot ([] : List Str) = 0 := rfl
        have hin : In m (TAnswer.mk n1 n2 ts ns) := ⟨a2, b2, e3, by show ts.length < m; omega, by show ns.length < m; omega, fun t ht => by have := mem_tot (show t ∈ ts from ht); omega, by show tot ts < _; omega⟩
        obtain ⟨q1, q2⟩ := rshow_eq m hm (by omega) _ hin
        rw [q2, Option.bind_some]
        cases hok : okA (TAnswer.mk n1 n2 ts ns) with
        | false => exact ⟨_, 12, rfl, Or.inr ⟨rfl, rfl⟩⟩
        | true =>
          rw [show ((cond true (0 : Int) 8) != 0) = false from rfl, cond_false, q1, Option.bind_some, cond_false]
          by_cases hsb : shown (TAnswer.mk n1 n2 ts ns) = s
          · rw [beq_iff_eq.2 hsb]
            exact ⟨_, 0, rfl, Or.inl ⟨rfl, hin, hok, hsb⟩⟩
          · rw [beq_eq_false_iff_ne.2 hsb]
            exact ⟨_, 12, rfl, Or.inr ⟨rfl, rfl⟩⟩
    obtain ⟨b, e, h1, h2⟩ := body
    refine ⟨b, e, h1, ?_⟩
    rcases h2 with h | ⟨rfl, rfl⟩
    · exact Or.inl h
    · refine Or.inr (Or.inl ⟨rfl, rfl, fun a ha ho hs => ?_⟩)
      have := yes a ha ho hs
      rw [h1] at this
      have := (Prod.mk.inj (Option.some.inj this)).2
      cases this
/-! ## What is the same -/
theorem same_L1 (m : Nat) (a b : TAnswer) (hl : a.Texts.length < 1000000) (he : a.Texts.length = b.Texts.length) : ∀ (kk i : Nat), a.Texts.length - i < kk → i ≤ a.Texts.length → r40_Same_L1 m a b kk (i : Int) = some (cond (a.Texts.drop i == b.Texts.drop i) (.inr ()) (.inl false)) := by
  intro kk
  induction kk with
  | zero => intro i h; omega
  | succ kk ih =>
    intro i hk hi
    rw [r40_Same_L1]
    by_cases hlt : i < a.Texts.length
    · have hlt2 : i < b.Texts.length := by omega
      rw [lt_dec hlt, cond_true, chk_ix hlt, chk_ix hlt2, gi_nat a.Texts i hlt, gi_nat b.Texts i hlt2, List.drop_eq_getElem_cons hlt, List.drop_eq_getElem_cons hlt2, lt_eq]
      show cond (!(a.Texts[i] == b.Texts[i])) _ _ = some (cond (a.Texts[i] == b.Texts[i] && a.Texts.drop (i + 1) == b.Texts.drop (i + 1)) _ _)
      cases a.Texts[i] == b.Texts[i] with
      | false => rfl
      | true => rw [Bool.not_true, cond_false, Bool.true_and, w64_ix (by omega)]; exact ih (i + 1) (by omega) hlt
    · rw [ge_dec (by omega), cond_false, List.drop_eq_nil_of_le (by omega), List.drop_eq_nil_of_le (by omega)]
      rfl
theorem same_L2 (m : Nat) (a b : TAnswer) (hl : a.Numbers.length < 1000000) (he : a.Numbers.length = b.Numbers.length) : ∀ (kk i : Nat), a.Numbers.length - i < kk → i ≤ a.Numbers.length → r40_Same_L2 m a b kk (i : Int) = some (cond (a.Numbers.drop i == b.Numbers.drop i) (.inr ()) (.inl false)) := by
  intro kk
  induction kk with
  | zero => intro i h; omega
  | succ kk ih =>
    intro i hk hi
    rw [r40_Same_L2]
    by_cases hlt : i < a.Numbers.length
    · have hlt2 : i < b.Numbers.length := by omega
      rw [lt_dec hlt, cond_true, chk_ix hlt, chk_ix hlt2, gi_nat a.Numbers i hlt, gi_nat b.Numbers i hlt2, List.drop_eq_getElem_cons hlt, List.drop_eq_getElem_cons hlt2, lt_eq]
      show cond (!(a.Numbers[i] == b.Numbers[i])) _ _ = some (cond (a.Numbers[i] == b.Numbers[i] && a.Numbers.drop (i + 1) == b.Numbers.drop (i + 1)) _ _)
      cases a.Numbers[i] == b.Numbers[i] with
      | false => rfl
      | true => rw [Bool.not_true, cond_false, Bool.true_and, w64_ix (by omega)]; exact ih (i + 1) (by omega) hlt
    · rw [ge_dec (by omega), cond_false, List.drop_eq_nil_of_le (by omega), List.drop_eq_nil_of_le (by omega)]
      rfl
theorem same_eq (m : Nat) (a b : TAnswer) (h1 : a.Texts.length < 1000000) (h2 : a.Numbers.length < 1000000) (h3 : a.Texts.length < m) (h4 : a.Numbers.length < m) : ∃ q, r40_Same m a b = some q ∧ (q = true ↔ a = b) := by
  obtain ⟨e, n, ts, ns⟩ := a
  obtain ⟨e', n', ts', ns'⟩ := b
  unfold r40_Same
  dsimp only at *
  by_cases he : e = e'
  · by_cases hn : n = n'
    · by_cases ht : ts.length = ts'.length
      · by_cases hns : ns.length = ns'.length
        · have c1 : cond (e != e') true (n != n') = false := by rw [he, hn]; simp
          have c2 : (ln ts != ln ts') = false := by unfold ln; rw [ht]; simp
          have c3 : (ln ns != ln ns') = false := by unfold ln; rw [hns]; simp
          rw [c1, lt_eq, cond_false, c2, lt_eq, cond_false, c3, lt_eq, cond_false]
          have g1 := same_L1 m (TAnswer.mk e n ts ns) (TAnswer.mk e' n' ts' ns') h1 ht m 0 (by show ts.length - 0 < m; omega) (by omega)
          have g2 := same_L2 m (TAnswer.mk e n ts ns) (TAnswer.mk e' n' ts' ns') h2 hns m 0 (by show ns.length - 0 < m; omega) (by omega)
          rw [List.drop_zero, List.drop_zero] at g1 g2
          rw [show r40_Same_L1 m (TAnswer.mk e n ts ns) (TAnswer.mk e' n' ts' ns') m 0 = _ from g1, Option.bind_some]
          dsimp only
          cases hx : (ts == ts') with
          | false =>
            refine ⟨false, rfl, (fun h => by cases h), fun h => ?_⟩
            injection h with _ _ h5 _
            rw [h5, beq_self_eq_true] at hx; cases hx
          | true =>
            rw [cond_true]
            unfold sumK
            dsimp only
            rw [show r40_Same_L2 m (TAnswer.mk e n ts ns) (TAnswer.mk e' n' ts' ns') m 0 = _ from g2, Option.bind_some]
            dsimp only
            cases hy : (ns == ns') with
            | false =>
              refine ⟨false, rfl, (fun h => by cases h), fun h => ?_⟩
              injection h with _ _ _ h5
              rw [h5, beq_self_eq_true] at hy; cases hy
            | true => exact ⟨true, rfl, (fun _ => by rw [he, hn, eq_of_beq hx, eq_of_beq hy]), fun _ => rfl⟩
        · have c3 : (ln ns != ln ns') = true := bne_iff_ne.2 (by unfold ln; omega)
          refine ⟨false, ?_, (fun h => by cases h), fun h => ?_⟩
          · rw [c3, lt_eq, lt_eq, lt_eq]
            cases cond (cond (e != e') true (n != n')) true (ln ts != ln ts') <;> rfl
          · injection h with _ _ _ h5; exact absurd (by rw [h5]) hns
      · have c2 : (ln ts != ln ts') = true := bne_iff_ne.2 (by unfold ln; omega)
        refine ⟨false, ?_, (fun h => by cases h), fun h => ?_⟩
        · rw [c2, lt_eq, lt_eq, lt_eq]
          cases cond (e != e') true (n != n') <;> rfl
        · injection h with _ _ h5 _; exact absurd (by rw [h5]) ht
    · have c1 : (n != n') = true := bne_iff_ne.2 hn
      refine ⟨false, ?_, (fun h => by cases h), fun h => ?_⟩
      · rw [c1, lt_eq, lt_eq, lt_eq]
        cases (e != e') <;> rfl
      · injection h with _ h5 _ _; exact absurd h5 hn
  · have c1 : (e != e') = true := bne_iff_ne.2 he
    refine ⟨false, ?_, (fun h => by cases h), fun h => ?_⟩
    · rw [c1, lt_eq, lt_eq, lt_eq]; rfl
    · injection h with h5 _ _ _; exact absurd h5 he
end Go.Proofs.YtipafpkdkhnjmaaGreatDoor

/-
 Putting a list in order that is in order: nothing turns. No program in sight.
-/
import Derived.Test.YtehlikdeobajcaaGreatDoorT4
set_option linter.unusedVariables false
set_option maxRecDepth 100000
namespace Go.Proofs.YtehlikdeobajcaaGreatDoor
open Go Go.V Go.RowKit
def Srt (l : List TDeclared) : Prop := ∀ i j : Nat, i ≤ j → j < l.length → ltB (sorter_rank (gi l (j : Int))) (sorter_rank (gi l (i : Int))) = false
theorem lt_self : ∀ a : List Int, ltB a a = false
 | [] => rfl
 | x :: a => by
  rw [ltB, decide_eq_false (Int.lt_irrefl x), cond_false, cond_false]
  exact lt_self a
theorem srt_of {l : List TDeclared} (h : askI l = 0) : Srt l := by
 have hadj : adj l = true := by
  unfold askI at h
  cases ha : l.all okD
  ·rw [ha] at h; cases h
  ·rw [ha, cond_true] at h
   cases hb : adj l
   ·rw [hb] at h; cases h
   ·rfl
 have hp := adj_pair l hadj
 intro i j hij hj
 rcases Nat.lt_or_ge i j with h1 | h1
 ·have := List.pairwise_iff_getElem.1 hp i j (by omega) hj h1
  rw [gi_nat l j hj, gi_nat l i (by omega)]
  exact this
 ·have : i = j := by omega
  subst this
  exact lt_self _
theorem cmp_no {l : List TDeclared} (hs : Srt l) (i j : Nat) (hij : i ≤ j) (hj : j < l.length) : ∃ c, sorter_compare FU (gi l (j : Int)) (gi l (i : Int)) = some c ∧ decide (c < 0) = false := by
 obtain ⟨c, h1, h2⟩ := compare_p FU (gi l (j : Int)) (gi l (i : Int))
 exact ⟨c, h1, h2.trans (hs i j hij hj)⟩
theorem ins_L2 (l : List TDeclared) (hs : Srt l) (hl : l.length ≤ 1000) (a i : Nat) (hi : i < l.length) (ha : a < i) : slices_insertionSortCmpFunc_api_Declared_L2 FU l (a : Int) FU (i : Int) = some () := by
 show slices_insertionSortCmpFunc_api_Declared_L2 FU l (a : Int) (1099999 + 1) (i : Int) = some ()
 have e : w64 ((i : Int) - 1) = ((i - 1 : Nat) : Int) := by rw [w64_id (by omega) (by omega)]; omega
 obtain ⟨c, h1, h2⟩ := cmp_no hs (i - 1) i (by omega) hi
 rw [slices_insertionSortCmpFunc_api_Declared_L2, decide_eq_true (show (a : Int) < (i : Int) by omega), e, chk_pos (fun _ => ⟨by omega, by unfold ln; omega⟩), chk_pos (fun _ => ⟨by omega, by unfold ln; omega⟩), cond_true, h1, Option.bind_some, lt_eq, cond_true, h2, cond_false]
theorem ins_L1 (l : List TDeclared) (hs : Srt l) (hl : l.length ≤ 1000) (a b : Nat) (hb : b ≤ l.length) : ∀ (kk i : Nat), 2000 - i < kk → i ≤ 1001 → a < i → slices_insertionSortCmpFunc_api_Declared_L1 FU l (a : Int) (b : Int) kk (i : Int) = some () := by
 intro kk
 induction kk with
 | zero => intro i h; omega
 | succ kk ih =>
  intro i h hi ha
  rw [slices_insertionSortCmpFunc_api_Declared_L1]
  by_cases h1 : i < b
  ·rw [decide_eq_true (show (i : Int) < (b : Int) by omega), cond_true, ins_L2 l hs hl a i (by omega) ha, Option.bind_some, w64_ix (by omega)]
   exact ih (i + 1) (by omega) (by omega) (by omega)
  ·rw [decide_eq_false (show ¬ (i : Int) < (b : Int) by omega), cond_false]
theorem ins_p (l : List TDeclared) (hs : Srt l) (hl : l.length ≤ 1000) (a b : Nat) (ha : a ≤ 1000) (hb : b ≤ l.length) : slices_insertionSortCmpFunc_api_Declared FU l (a : Int) (b : Int) = some () := by
 unfold slices_insertionSortCmpFunc_api_Declared
 rw [w64_ix (by omega)]
 exact ins_L1 l hs hl a b hb FU (a + 1) (by unfold FU; omega) (by omega) (by omega)
theorem half_n (n : Nat) : Int.fdiv (n : Int) (2 ^ 1) = ((n / 2 : Nat) : Int) := by
 rw [show ((2 : Int) ^ 1) = 2 from rfl, Int.fdiv_eq_ediv_of_nonneg _ (by decide)]
 omega
theorem half_p (x y : Nat) (hx : x ≤ 10000) (hy : y ≤ 10000) : Int.fdiv (wu64 (w64 ((x : Int) + (y : Int)))) (2 ^ 1) = (((x + y) / 2 : Nat) : Int) := by
 have e : wu64 (w64 ((x : Int) + (y : Int))) = ((x + y : Nat) : Int) := by rw [w64_id (by omega) (by omega), wu64_id (by omega) (by omega)]; omega
 rw [e, half_n]
theorem w64_n (n : Nat) (h : n ≤ 100000) : w64 (n : Int) = (n : Int) := w64_id (by omega) (by omega)
theorem sym_L1 (l : List TDeclared) (hs : Srt l) (hl : l.length ≤ 1000) (a m : Nat) (ha : a < m) : ∀ (kk j : Nat), j - m < kk → m ≤ j → j ≤ l.length → slices_symMergeCmpFunc_api_Declared_L1 FU l (a : Int) kk (m : Int) (j : Int) = some (m : Int) := by
 intro kk
 induction kk with
 | zero => intro j h; omega
 | succ kk ih =>
  intro j h hm hj
  rw [slices_symMergeCmpFunc_api_Declared_L1]
  by_cases h1 : m < j
  ·obtain ⟨c, q1, q2⟩ := cmp_no hs a ((m + j) / 2) (by omega) (by omega)
   rw [decide_eq_true (show (m : Int) < (j : Int) by omega), cond_true, half_p m j (by omega) (by omega), w64_n _ (by omega), lt_eq, chk_ix (show (m + j) / 2 < l.length by omega), chk_ix (show a < l.length by omega), q1, Option.bind_some, q2, cond_false]
   exact ih ((m + j) / 2) (by omega) (by omega) (by omega)
  ·have : j = m := by omega
   subst this
   rw [decide_eq_false (show ¬ (j : Int) < (j : Int) by omega), cond_false]
theorem sym_L3 (l : List TDeclared) (hs : Srt l) (hl : l.length ≤ 1000) (m : Nat) (hm : m < l.length) : ∀ (kk i : Nat), m - i < kk → i ≤ m → slices_symMergeCmpFunc_api_Declared_L3 FU l (m : Int) kk (i : Int) (m : Int) = some (m : Int) := by
 intro kk
 induction kk with
 | zero => intro i h; omega
 | succ kk ih =>
  intro i h hi
  rw [slices_symMergeCmpFunc_api_Declared_L3]
  by_cases h1 : i < m
  ·obtain ⟨c, q1, q2⟩ := cmp_no hs ((i + m) / 2) m (by omega) (by omega)
   rw [decide_eq_true (show (i : Int) < (m : Int) by omega), cond_true, half_p i m (by omega) (by omega), lt_eq, w64_n _ (by omega), chk_ix hm, chk_ix (show (i + m) / 2 < l.length by omega), q1, Option.bind_some, q2, Bool.not_false, cond_true, w64_ix (by omega)]
   exact ih ((i + m) / 2 + 1) (by omega) (by omega)
  ·have : i = m := by omega
   subst this
   rw [decide_eq_false (show ¬ (i : Int) < (i : Int) by omega), cond_false]
theorem sym_L5 (l : List TDeclared) (hs : Srt l) (hl : l.length ≤ 1000) (m mid r : Nat) (hm : m ≤ 1000) (hmid : mid ≤ 1000) (h2 : 2 * r ≤ mid + m) : ∀ (kk i : Nat), r - i < kk → i ≤ r → mid + m - i ≤ l.length → slices_symMergeCmpFunc_api_Declared_L5 FU l (m : Int) (mid : Int) kk (i : Int) (r : Int) = some (r : Int) := by
 intro kk
 induction kk with
 | zero => intro i h; omega
 | succ kk ih =>
  intro i h hi hp
  rw [slices_symMergeCmpFunc_api_Declared_L5]
  by_cases h1 : i < r
  ·have e1 : w64 ((w64 ((w64 ((mid : Int) + (m : Int))) - 1)) - (((i + r) / 2 : Nat) : Int)) = ((mid + m - 1 - (i + r) / 2 : Nat) : Int) := by
    rw [w64_id (x := (mid : Int) + (m : Int)) (by omega) (by omega), w64_id (x := (mid : Int) + (m : Int) - 1) (by omega) (by omega), w64_id (by omega) (by omega)]
    omega
   obtain ⟨c, q1, q2⟩ := cmp_no hs ((i + r) / 2) (mid + m - 1 - (i + r) / 2) (by omega) (by omega)
   rw [decide_eq_true (show (i : Int) < (r : Int) by omega), cond_true, half_p i r (by omega) (by omega), lt_eq, w64_n ((i + r) / 2) (by omega), e1, lt_eq, chk_ix (show mid + m - 1 - (i + r) / 2 < l.length by omega), chk_ix (show (i + r) / 2 < l.length by omega), q1, Option.bind_some, q2, Bool.not_false, cond_true, w64_ix (by omega)]
   exact ih ((i + r) / 2 + 1) (by omega) (by omega) (by omega)
  ·have : i = r := by omega
   subst this
   rw [decide_eq_false (show ¬ (i : Int) < (i : Int) by omega), cond_false]
theorem sym_p (l : List TDeclared) (hs : Srt l) (hl : l.length ≤ 1000) : ∀ (k a m b : Nat), b - a < k → a < m → m < b → b ≤ l.length → slices_symMergeCmpFunc_api_Declared_r FU k l (a : Int) (m : Int) (b : Int) = some () := by
 intro k
 induction k with
 | zero => intro a m b h; omega
 | succ k ih =>
  intro a m b h ham hmb hb
  have e1 : w64 ((m : Int) - (a : Int)) = ((m - a : Nat) : Int) := by rw [w64_id (by omega) (by omega)]; omega
  have e2 : w64 ((b : Int) - (m : Int)) = ((b - m : Nat) : Int) := by rw [w64_id (by omega) (by omega)]; omega
  rw [slices_symMergeCmpFunc_api_Declared_r, e1, e2]
  by_cases h1 : m - a = 1
  ·rw [h1, show (((1 : Nat) : Int) == 1) = true from rfl, cond_true, sym_L1 l hs hl a m ham FU b (by unfold FU; omega) (by omega) hb, Option.bind_some]
   have q : slices_symMergeCmpFunc_api_Declared_L2 FU (m : Int) (1099999 + 1) (a : Int) = some () := by
    have e : w64 ((m : Int) - 1) = ((m - 1 : Nat) : Int) := by rw [w64_id (by omega) (by omega)]; omega
    rw [slices_symMergeCmpFunc_api_Declared_L2, e, decide_eq_false (show ¬ (a : Int) < ((m - 1 : Nat) : Int) by omega), cond_false]
   rw [show slices_symMergeCmpFunc_api_Declared_L2 FU (m : Int) FU (a : Int) = _ from q]
   rfl
  ·rw [show (((m - a : Nat) : Int) == 1) = false from beq_eq_false_iff_ne.2 (by omega), cond_false, Option.bind_some]
   dsimp only [sumK]
   by_cases h2 : b - m = 1
   ·rw [h2, show (((1 : Nat) : Int) == 1) = true from rfl, cond_true, sym_L3 l hs hl m (by omega) FU a (by unfold FU; omega) (by omega), Option.bind_some]
    have q : slices_symMergeCmpFunc_api_Declared_L4 FU (m : Int) (1099999 + 1) (m : Int) = some () := by
     rw [slices_symMergeCmpFunc_api_Declared_L4, decide_eq_false (show ¬ (m : Int) < (m : Int) by omega), cond_false]
    rw [show slices_symMergeCmpFunc_api_Declared_L4 FU (m : Int) FU (m : Int) = _ from q]
    rfl
   ·rw [show (((b - m : Nat) : Int) == 1) = false from beq_eq_false_iff_ne.2 (by omega), cond_false, Option.bind_some]
    dsimp only [sumK]
    rw [half_p a b (by omega) (by omega), w64_n _ (by omega), lt_eq]
    generalize hmid : (a + b) / 2 = mid
    have n1 : w64 ((mid : Int) + (m : Int)) = ((mid + m : Nat) : Int) := by rw [w64_id (by omega) (by omega)]; omega
    rw [n1]
    by_cases h3 : mid < m
    ·have n2 : w64 (((mid + m : Nat) : Int) - (b : Int)) = ((mid + m - b : Nat) : Int) := by rw [w64_id (by omega) (by omega)]; omega
     have n3 : w64 (((mid + m : Nat) : Int) - (mid : Int)) = ((m : Nat) : Int) := by rw [w64_id (by omega) (by omega)]; omega
     rw [decide_eq_true (show (mid : Int) < (m : Int) by omega), cond_true, n2, Option.bind_some]
     dsimp only
     rw [sym_L5 l hs hl m mid mid (by omega) (by omega) (by omega) FU (mid + m - b) (by unfold FU; omega) (by omega) (by omega), Option.bind_some, n3, decide_eq_true (show (mid : Int) < (m : Int) by omega), decide_eq_false (show ¬ (m : Int) < (m : Int) by omega), lt_eq, cond_true, cond_false, Option.bind_some, decide_eq_true (show (a : Int) < (mid : Int) by omega), decide_eq_false (show ¬ (mid : Int) < (mid : Int) by omega), lt_eq, cond_true, cond_false, Option.bind_some, lt_eq, lt_eq, decide_eq_true (show (m : Int) < (b : Int) by omega), cond_true, cond_true, ih mid m b (by omega) h3 hmb hb]
     rfl
    ·have n3 : w64 (((mid + m : Nat) : Int) - (m : Int)) = ((mid : Nat) : Int) := by rw [w64_id (by omega) (by omega)]; omega
     rw [decide_eq_false (show ¬ (mid : Int) < (m : Int) by omega), cond_false, Option.bind_some]
     dsimp only
     rw [sym_L5 l hs hl m mid m (by omega) (by omega) (by omega) FU a (by unfold FU; omega) (by omega) (by omega), Option.bind_some, n3, decide_eq_false (show ¬ (m : Int) < (m : Int) by omega), lt_eq, cond_false, cond_false, Option.bind_some, decide_eq_true (show (a : Int) < (m : Int) by omega), lt_eq, cond_true]
     have fin : ∀ X : Option Unit, X = some () → Option.bind X (fun z135 => lt (decide ((mid : Int) < (mid : Int))) fun x143 => lt (cond x143 (decide ((mid : Int) < (b : Int))) false) fun x144 => cond x144 (Option.bind ((slices_symMergeCmpFunc_api_Declared_r FU k) l (mid : Int) (mid : Int) (b : Int)) fun y147 => some ()) (some ())) = some () := by
      intro X hX
      rw [hX, Option.bind_some, decide_eq_false (show ¬ (mid : Int) < (mid : Int) by omega)]
      rfl
     refine fin _ ?_
     by_cases h4 : m < mid
     ·rw [decide_eq_true (show (m : Int) < (mid : Int) by omega), cond_true, ih a m mid (by omega) ham h4 (by omega)]
      rfl
     ·rw [decide_eq_false (show ¬ (m : Int) < (mid : Int) by omega), cond_false]
theorem sym_all (l : List TDeclared) (hs : Srt l) (hl : l.length ≤ 1000) (a m b : Nat) (h1 : a < m) (h2 : m < b) (h3 : b ≤ l.length) : slices_symMergeCmpFunc_api_Declared FU l (a : Int) (m : Int) (b : Int) = some () :=
 sym_p l hs hl FU a m b (by unfold FU; omega) h1 h2 h3
theorem stab_L1 (l : List TDeclared) (hs : Srt l) (hl : l.length ≤ 40) : ∀ (kk a : Nat), 100 - a < kk → a ≤ 100 → a ≤ l.length → ∃ z : Nat, slices_stableCmpFunc_api_Declared_L1 FU l (ln l) kk (a : Int) ((a + 20 : Nat) : Int) = some (z : Int) ∧ z ≤ l.length := by
 intro kk
 induction kk with
 | zero => intro a h; omega
 | succ kk ih =>
  intro a h ha hal
  rw [slices_stableCmpFunc_api_Declared_L1]
  by_cases h1 : a + 20 ≤ l.length
  ·rw [decide_eq_true (show ((a + 20 : Nat) : Int) ≤ ln l by unfold ln; omega), cond_true, ins_p l hs (by omega) a (a + 20) (by omega) h1, Option.bind_some, show w64 (((a + 20 : Nat) : Int) + 20) = ((a + 20 + 20 : Nat) : Int) from by rw [w64_id (by omega) (by omega)]; omega]
   exact ih (a + 20) (by omega) (by omega) h1
  ·rw [decide_eq_false (show ¬ ((a + 20 : Nat) : Int) ≤ ln l by unfold ln; omega), cond_false]
   exact ⟨a, rfl, hal⟩
theorem stab_p (l : List TDeclared) (hs : Srt l) (hl : l.length ≤ 40) : slices_stableCmpFunc_api_Declared FU l (ln l) = some () := by
 obtain ⟨z, h1, h2⟩ := stab_L1 l hs hl FU 0 (by unfold FU; omega) (by omega) (by omega)
 unfold slices_stableCmpFunc_api_Declared
 rw [show slices_stableCmpFunc_api_Declared_L1 FU l (ln l) FU 0 20 = _ from h1, Option.bind_some, show ln l = ((l.length : Nat) : Int) from rfl, ins_p l hs (by omega) z l.length (by omega) (Nat.le_refl _), Option.bind_some]
 show slices_stableCmpFunc_api_Declared_L2 FU l ((l.length : Nat) : Int) (1099998 + 1 + 1) 20 = some ()
 rw [slices_stableCmpFunc_api_Declared_L2]
 by_cases h3 : 20 < l.length
 ·rw [decide_eq_true (show (20 : Int) < ((l.length : Nat) : Int) by omega), cond_true, show w64 (2 * 20) = 40 from rfl]
  have last : ∀ X : Option Unit, X = some () → Option.bind X (fun z41 => slices_stableCmpFunc_api_Declared_L2 FU l ((l.length : Nat) : Int) (1099998 + 1) (w64 (20 * 2))) = some () := by
   intro X hX
   rw [hX, Option.bind_some, show w64 (20 * 2) = 40 from rfl, slices_stableCmpFunc_api_Declared_L2, decide_eq_false (show ¬ (40 : Int) < ((l.length : Nat) : Int) by omega), cond_false]
  by_cases h4 : l.length = 40
  ·have q : slices_stableCmpFunc_api_Declared_L3 FU l ((l.length : Nat) : Int) 20 (1099998 + 1 + 1) 0 40 = some 40 := by
    rw [slices_stableCmpFunc_api_Declared_L3, decide_eq_true (show (40 : Int) ≤ ((l.length : Nat) : Int) by omega), cond_true, show slices_symMergeCmpFunc_api_Declared FU l 0 (w64 (0 + 20)) 40 = some () from sym_all l hs (by omega) 0 20 40 (by omega) (by omega) (by omega), Option.bind_some, show w64 (40 + (w64 (2 * 20))) = 80 from rfl, slices_stableCmpFunc_api_Declared_L3, decide_eq_false (show ¬ (80 : Int) ≤ ((l.length : Nat) : Int) by omega), cond_false]
   rw [show slices_stableCmpFunc_api_Declared_L3 FU l ((l.length : Nat) : Int) 20 FU 0 40 = _ from q, Option.bind_some, show w64 (40 + 20) = 60 from rfl, decide_eq_false (show ¬ (60 : Int) < ((l.length : Nat) : Int) by omega), cond_false]
   exact last _ rfl
  ·have q : slices_stableCmpFunc_api_Declared_L3 FU l ((l.length : Nat) : Int) 20 (1099998 + 1 + 1) 0 40 = some 0 := by
    rw [slices_stableCmpFunc_api_Declared_L3, decide_eq_false (show ¬ (40 : Int) ≤ ((l.length : Nat) : Int) by omega), cond_false]
   rw [show slices_stableCmpFunc_api_Declared_L3 FU l ((l.length : Nat) : Int) 20 FU 0 40 = _ from q, Option.bind_some, show w64 (0 + 20) = 20 from rfl, decide_eq_true (show (20 : Int) < ((l.length : Nat) : Int) by omega), cond_true, show slices_symMergeCmpFunc_api_Declared FU l 0 20 ((l.length : Nat) : Int) = some () from sym_all l hs (by omega) 0 20 l.length (by omega) h3 (Nat.le_refl _)]
   exact last _ rfl
 ·rw [decide_eq_false (show ¬ (20 : Int) < ((l.length : Nat) : Int) by omega), cond_false]
end Go.Proofs.YtehlikdeobajcaaGreatDoor

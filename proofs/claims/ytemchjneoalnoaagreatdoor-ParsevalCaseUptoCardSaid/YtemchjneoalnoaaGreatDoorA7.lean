/-
 The texts of numbers that the program writes: their figures, their worth. No program in sight.
-/
import Derived.Test.YtemchjneoalnoaaGreatDoorA6
set_option linter.unusedVariables false
namespace Go.Proofs.YtemchjneoalnoaaGreatDoor
open Go Go.V
set_option maxRecDepth 100000
theorem dd_small {u : Nat} (h : u < 10) : Lib.decDigits u = [UInt8.ofNat (48 + u)] := by rw [Lib.decDigits, dif_pos h]
theorem dd_big {u : Nat} (h : ¬ u < 10) : Lib.decDigits u = Lib.decDigits (u / 10) ++ [UInt8.ofNat (48 + u % 10)] := by rw [Lib.decDigits, dif_neg h]
theorem dd_len : ∀ (k u : Nat), u < 10 ^ (k + 1) → (Lib.decDigits u).length ≤ k + 1
 | 0, u, h => by rw [dd_small (by simpa using h)]; simp
 | k + 1, u, h => by
  by_cases hu : u < 10
  ·rw [dd_small hu]; simp
  ·rw [dd_big hu, List.length_append]
   have := dd_len k (u / 10) (by rw [Nat.pow_succ] at h; omega)
   simp only [List.length_cons, List.length_nil]; omega
theorem x_fi {u : Nat} (hu : u < 1000000000000000) : x_FormatInt10 (u : Int) = some (Lib.decDigits u) := by
 unfold x_FormatInt10
 rw [chk_pos (by omega), itoaS_eq (by omega)]
 unfold Lib.itoa
 rw [if_neg (by omega), Int.toNat_natCast]
theorem x_it {u : Nat} (hu : u < 1000000000000000) : x_Itoa (u : Int) = some (Lib.decDigits u) := by
 unfold x_Itoa
 rw [chk_pos (by omega), itoaS_eq (by omega)]
 unfold Lib.itoa
 rw [if_neg (by omega), Int.toNat_natCast]
theorem trim_len (l cs : Str) : (Lib.trimRightS l cs).length ≤ l.length := by
 unfold Lib.trimRightS
 rw [List.length_reverse]
 have := (List.dropWhile_sublist (cs.contains ·) (l := l.reverse)).length_le
 rw [List.length_reverse] at this
 exact this
theorem sub_len (s : Str) (i j : Int) : (sub s i j).length ≤ s.length := by
 unfold sub
 rw [List.length_take, List.length_drop]; omega
def numS (u : Nat) : Str := Lib.decDigits (u / 1000) ++ cond (Nat.beq (u % 1000) 0) [] (46 :: Lib.trimRightS (sub (Lib.decDigits (1000 + u % 1000)) 1 (ln (Lib.decDigits (1000 + u % 1000)))) [48])
theorem x_tr (s : Str) (h : s.length ≤ 1000) : x_strings_TrimRight s [48] = some (Lib.trimRightS s [48]) := by
 unfold x_strings_TrimRight
 rw [chk_pos ⟨by decide, by decide, by omega⟩]
theorem beq_z {n : Nat} (h : n ≠ 0) : Nat.beq n 0 = false := by
 cases n with
 | zero => exact absurd rfl h
 | succ n => rfl
def d3 (r : Nat) : Str := [UInt8.ofNat (48 + r / 100), UInt8.ofNat (48 + r / 10 % 10), UInt8.ofNat (48 + r % 10)]
theorem dd4 (r : Nat) (h : r < 1000) : Lib.decDigits (1000 + r) = 49 :: d3 r := by
 rw [dd_big (by omega), dd_big (by omega), dd_big (by omega), dd_small (by omega)]
 rw [show (1000 + r) / 10 / 10 / 10 = 1 from by omega, show (1000 + r) / 10 / 10 % 10 = r / 100 from by omega, show (1000 + r) / 10 % 10 = r / 10 % 10 from by omega, show (1000 + r) % 10 = r % 10 from by omega]
 rfl
theorem part_at {r : Nat} (h0 : 0 < r) (h : r < 1000) : ln (Lib.decDigits (1000 + r)) = 4 ∧ True := by
 rw [dd4 r h]
 exact ⟨rfl, trivial⟩
def frac (r : Nat) : Str := Lib.trimRightS (d3 r) [48]
theorem frac_all : ((List.range 1000).all fun r => Nat.beq r 0 || (!(frac r).isEmpty && (frac r).all isd && Nat.ble (frac r).length 3 && Nat.beq (valN (frac r) 0 * 10 ^ (3 - (frac r).length)) r)) = true := by kernel_rfl
theorem frac_at {r : Nat} (h0 : r ≠ 0) (h : r < 1000) : frac r ≠ [] ∧ (∀ b ∈ frac r, isd b = true) ∧ (frac r).length ≤ 3 ∧ valN (frac r) 0 * 10 ^ (3 - (frac r).length) = r := by
 have h1 := (List.all_eq_true.1 frac_all) r (List.mem_range.2 h)
 rw [beq_z h0, Bool.false_or] at h1
 simp only [Bool.and_eq_true, Bool.not_eq_true'] at h1
 obtain ⟨⟨⟨h2, h3⟩, h4⟩, h5⟩ := h1
 refine ⟨fun e => ?_, List.all_eq_true.1 h3, Nat.le_of_ble_eq_true h4, Nat.eq_of_beq_eq_true h5⟩
 rw [e] at h2
 cases h2
theorem numS_eq (u : Nat) : numS u = Lib.decDigits (u / 1000) ++ cond (Nat.beq (u % 1000) 0) [] (46 :: frac (u % 1000)) := by
 unfold numS frac
 rw [dd4 (u % 1000) (Nat.mod_lt _ (by decide))]
 rfl
theorem dgt_n (q : Nat) (h : q < 10) : (UInt8.ofNat (48 + q)).toNat = 48 + q := by
 rw [UInt8.toNat_ofNat']
 omega
theorem dd_ne (u : Nat) : Lib.decDigits u ≠ [] := by
 by_cases h : u < 10
 ·rw [dd_small h]; exact List.cons_ne_nil _ _
 ·rw [dd_big h]; intro e; exact List.cons_ne_nil _ _ (List.append_eq_nil_iff.1 e).2
theorem isd_dgt (q : Nat) (h : q < 10) : isd (UInt8.ofNat (48 + q)) = true := by
 unfold isd
 rw [dgt_n q h]
 simp only [Bool.and_eq_true, decide_eq_true_eq]
 omega
theorem dd_dig : ∀ (n u : Nat), u < n → ∀ b ∈ Lib.decDigits u, isd b = true
 | 0, u, h => by omega
 | n + 1, u, h => by
  intro b hb
  by_cases hu : u < 10
  ·rw [dd_small hu] at hb
   rw [List.mem_singleton.1 hb]
   exact isd_dgt u hu
  ·rw [dd_big hu] at hb
   rcases List.mem_append.1 hb with hb | hb
   ·exact dd_dig n (u / 10) (by omega) b hb
   ·rw [List.mem_singleton.1 hb]
    exact isd_dgt _ (Nat.mod_lt _ (by decide))
theorem dd_val : ∀ (n u : Nat), u < n → valN (Lib.decDigits u) 0 = u
 | 0, u, h => by omega
 | n + 1, u, h => by
  by_cases hu : u < 10
  ·rw [dd_small hu]
   show 10 * 0 + ((UInt8.ofNat (48 + u)).toNat - 48) = u
   rw [dgt_n u hu]; omega
  ·rw [dd_big hu, valN_app, dd_val n (u / 10) (by omega)]
   show 10 * (u / 10) + ((UInt8.ofNat (48 + u % 10)).toNat - 48) = u
   rw [dgt_n _ (Nat.mod_lt _ (by decide))]; omega
theorem number_pos (u : Nat) (hu : u ≤ 1000000000000) (pre : Str) (hp : pre.length ≤ 1) : (Option.bind (x_FormatInt10 (w64 (Int.tdiv (u : Int) 1000))) fun y11 =>
  Option.bind (cond (decide (0 < (Int.tmod (u : Int) 1000))) (
   Option.bind (x_FormatInt10 (w64 (1000 + (Int.tmod (u : Int) 1000)))) fun y19 =>
   chk (0 ≤ (1 : Int) ∧ (1 : Int) ≤ ln y19) <|
   Option.bind (x_strings_TrimRight (sub y19 1 (ln y19)) [48]) fun y21 =>
   chk (ln [46] + ln y21 ≤ 9223372036854775807) <|
   chk (ln y11 + ln ([46] ++ y21) ≤ 9223372036854775807) <|
   some (y11 ++ ([46] ++ y21))) (some y11)) fun (z14 : Str) =>
  chk (ln pre + ln z14 ≤ 9223372036854775807) <| some (pre ++ z14)) = some (pre ++ numS u) := by
 have hm : Int.tmod (u : Int) 1000 = ((u % 1000 : Nat) : Int) := by rw [tmod_pos (by omega)]; omega
 have hd : w64 (Int.tdiv (u : Int) 1000) = ((u / 1000 : Nat) : Int) := by rw [tdiv_pos (by omega), w64_id (by omega) (by omega)]; omega
 have hl := dd_len 15 (u / 1000) (by show _ < 10000000000000000; omega)
 rw [hm, hd, x_fi (by omega), Option.bind_some]
 unfold numS
 by_cases h0 : u % 1000 = 0
 ·rw [h0, show decide ((0 : Int) < ((0 : Nat) : Int)) = false from rfl, cond_false, Option.bind_some, chk_pos (by unfold ln; omega), show Nat.beq 0 0 = true from rfl, cond_true, List.append_nil]
 ·have hp4 := (part_at (r := u % 1000) (by omega) (by omega)).1
  have hs : w64 (1000 + ((u % 1000 : Nat) : Int)) = ((1000 + u % 1000 : Nat) : Int) := by rw [w64_id (by omega) (by omega)]; omega
  have hsl := sub_len (Lib.decDigits (1000 + u % 1000)) 1 (ln (Lib.decDigits (1000 + u % 1000)))
  have htl := trim_len (sub (Lib.decDigits (1000 + u % 1000)) 1 (ln (Lib.decDigits (1000 + u % 1000)))) [48]
  have hp4' : (Lib.decDigits (1000 + u % 1000)).length = 4 := by unfold ln at hp4; omega
  have ck : ∀ {α β : Type} (x : List α) (y : List β), x.length ≤ 2000 → y.length ≤ 2000 → ln x + ln y ≤ 9223372036854775807 := fun x y h1 h2 => by unfold ln; omega
  rw [beq_z h0, cond_false, show decide ((0 : Int) < ((u % 1000 : Nat) : Int)) = true from decide_eq_true (by omega), cond_true, hs, x_fi (by omega), Option.bind_some, chk_pos (by omega), x_tr _ (by omega), Option.bind_some, chk_pos (ck _ _ (by first | omega | (simp only [List.length_append, List.length_cons, List.length_nil]; omega)) (by first | omega | (simp only [List.length_append, List.length_cons, List.length_nil]; omega))),
   chk_pos (ck _ _ (by first | omega | (simp only [List.length_append, List.length_cons, List.length_nil]; omega)) (by first | omega | (simp only [List.length_append, List.length_cons, List.length_nil]; omega))), Option.bind_some, chk_pos (ck _ _ (by first | omega | (simp only [List.length_append, List.length_cons, List.length_nil]; omega)) (by first | omega | (simp only [List.length_append, List.length_cons, List.length_nil]; omega)))]
  rfl
theorem number_nat (u : Nat) (hu : u ≤ 1000000000000) : parseval_number (u : Int) = some (numS u) := by
 unfold parseval_number
 rw [show decide ((u : Int) < 0) = false from decide_eq_false (by omega), cond_false, Option.bind_some]
 exact number_pos u hu [] (by decide)
theorem number_neg (u : Nat) (h0 : 0 < u) (hu : u ≤ 1000000000000) : parseval_number (-(u : Int)) = some (45 :: numS u) := by
 unfold parseval_number
 rw [show decide (-(u : Int) < 0) = true from decide_eq_true (by omega), cond_true, Option.bind_some, show w64 (0 - -(u : Int)) = (u : Int) by rw [w64_id (by omega) (by omega)]; omega]
 exact number_pos u hu [45] (by decide)
theorem dd_head (u : Nat) : ∃ c r, Lib.decDigits u = c :: r ∧ isd c = true := by
 cases h : Lib.decDigits u with
 | nil => exact absurd h (dd_ne u)
 | cons c r => exact ⟨c, r, rfl, dd_dig (u + 1) u (by omega) c (by rw [h]; exact List.mem_cons_self)⟩
theorem numT (sg : Str) (hs : sg = [] ∨ sg = [45]) (u : Nat) (hu : u ≤ 1000000000000) : NumT (sg ++ numS u) (cond sg.isEmpty (u : Int) (-(u : Int))) (Nat.beq (u % 1000) 0) := by
 have hd1 := dd_dig (u / 1000 + 1) (u / 1000) (by omega)
 have hv := dd_val (u / 1000 + 1) (u / 1000) (by omega)
 have hl := dd_len 15 (u / 1000) (by show _ < 10000000000000000; omega)
 have hsl : sg.length ≤ 1 := by rcases hs with e | e <;> rw [e] <;> decide
 rw [numS_eq]
 obtain ⟨c, r, hc1, hc2⟩ := dd_head (u / 1000)
 have hh : ∀ F : Str, ∃ c r, sg ++ (Lib.decDigits (u / 1000) ++ F) = c :: r ∧ (isb 45 c = true ∨ isd c = true) := by
  intro F
  rcases hs with e | e
  ·exact ⟨c, r ++ F, by rw [e, hc1]; rfl, Or.inr hc2⟩
  ·exact ⟨45, Lib.decDigits (u / 1000) ++ F, by rw [e]; rfl, Or.inl rfl⟩
 by_cases h0 : u % 1000 = 0
 ·rw [h0, show Nat.beq 0 0 = true from rfl, cond_true]
  refine ⟨fun R w hR hw => ?_, ?_, ?_, hh _⟩
  ·exact num_end sg (Lib.decDigits (u / 1000)) [] [] R hs (dd_ne _) hd1 (fun _ h => by cases h) (Or.inl ⟨rfl, rfl⟩) hR w (by rw [hw]; simp)
  ·exact worth_txt sg (Lib.decDigits (u / 1000)) [] [] hs (dd_ne _) hd1 (fun _ h => by cases h) (Or.inl ⟨rfl, rfl⟩) (by decide) u hu hv (by rw [h0]; rfl) (by simp only [List.length_append, List.length_nil]; omega)
  ·simp only [List.length_append, List.length_nil]; omega
 ·obtain ⟨f1, f2, f3, f4⟩ := frac_at h0 (Nat.mod_lt u (by decide))
  rw [beq_z h0, cond_false]
  refine ⟨fun R w hR hw => ?_, ?_, ?_, hh _⟩
  ·exact num_end sg (Lib.decDigits (u / 1000)) (frac (u % 1000)) (46 :: frac (u % 1000)) R hs (dd_ne _) hd1 f2 (Or.inr ⟨rfl, f1⟩) hR w (by rw [hw]; simp)
  ·exact worth_txt sg (Lib.decDigits (u / 1000)) (frac (u % 1000)) (46 :: frac (u % 1000)) hs (dd_ne _) hd1 f2 (Or.inr ⟨rfl, f1⟩) f3 u hu hv f4 (by simp only [List.length_append, List.length_cons]; omega)
  ·simp only [List.length_append, List.length_cons]; omega
def numI (n : Int) : Str := cond (decide (n < 0)) [45] [] ++ numS n.natAbs
theorem number_i (n : Int) (h1 : -1000000000000 ≤ n) (h2 : n ≤ 1000000000000) : parseval_number n = some (numI n) := by
 unfold numI
 by_cases h : n < 0
 ·obtain ⟨u, rfl⟩ : ∃ u : Nat, n = -(u : Int) := ⟨n.natAbs, by omega⟩
  rw [decide_eq_true h, show (-(u : Int)).natAbs = u from by omega]
  exact number_neg u (by omega) (by omega)
 ·obtain ⟨u, rfl⟩ : ∃ u : Nat, n = (u : Int) := ⟨n.natAbs, by omega⟩
  rw [decide_eq_false h, show ((u : Int)).natAbs = u from by omega]
  exact number_nat u (by omega)
theorem numI_t (n : Int) (h1 : -1000000000000 ≤ n) (h2 : n ≤ 1000000000000) : NumT (numI n) n (Nat.beq (n.natAbs % 1000) 0) := by
 unfold numI
 by_cases h : n < 0
 ·have ht := numT [45] (Or.inr rfl) n.natAbs (by omega)
  rw [decide_eq_true h, cond_true]
  rw [show cond ([45] : Str).isEmpty ((n.natAbs : Nat) : Int) (-((n.natAbs : Nat) : Int)) = n from by show -((n.natAbs : Nat) : Int) = n; omega] at ht
  exact ht
 ·have ht := numT [] (Or.inl rfl) n.natAbs (by omega)
  rw [decide_eq_false h, cond_false]
  rw [show cond ([] : Str).isEmpty ((n.natAbs : Nat) : Int) (-((n.natAbs : Nat) : Int)) = n from by show ((n.natAbs : Nat) : Int) = n; omega] at ht
  exact ht
end Go.Proofs.YtemchjneoalnoaaGreatDoor

/-
 Names of colours and hashes: both readers see the same. No program in sight.
-/
import Derived.Test.YtpgflfjmjppmeaaGreatDoorT3
set_option linter.unusedVariables false
set_option maxRecDepth 100000
namespace Go.Proofs.YtpgflfjmjppmeaaGreatDoor
open Go Go.V Go.RowKit
def c0 : TColor := TColor.mk 0 0 0 0
theorem drop_get {s : Str} {i : Nat} (h : i < s.length) : s.drop i = s[i] :: s.drop (i + 1) := List.drop_eq_getElem_cons h
theorem nat_all {p : Nat → Bool} {k n : Nat} (h : ((List.range k).all p) = true) (hn : n < k) : p n = true := List.all_eq_true.1 h n (List.mem_range.2 hn)
theorem sub_byte {s : Str} {i : Nat} (h : i < s.length) : sub s (i : Int) ((i + 1 : Nat) : Int) = [s[i]] := by
 unfold sub
 rw [Int.toNat_natCast, Int.toNat_natCast, show i + 1 - i = 1 from by omega, drop_get h]
 rfl
theorem u8_up (x : Int) : wu8 (wu8 (x + 97) - 65) = wu8 (x + 32) := by rw [wu8_mod, wu8_mod, wu8_mod]; omega
theorem small_L1 (m : Nat) (s : Str) : ∀ (kk : Nat) (i : Int) (l : List Int), parseval_small_L1 m s kk i l = r26_Small_L1 m s kk i l := by
 intro kk
 induction kk with
 | zero => intro i l; rfl
 | succ kk ih =>
  intro i l
  rw [parseval_small_L1, r26_Small_L1]
  simp only [ih, u8_up]
theorem small_eq (m : Nat) (s : Str) : parseval_small m s = r26_Small m s := by
 unfold parseval_small r26_Small
 rw [small_L1]
theorem small_tot (m : Nat) (s : Str) (hs : s.length ≤ 1048576) : ∀ (kk i : Nat) (l : List Int), s.length - i < kk → i ≤ s.length → ∃ r, r26_Small_L1 m s kk (i : Int) l = some r := by
 intro kk
 induction kk with
 | zero => intro i l h; omega
 | succ kk ih =>
  intro i l hk hi
  have hl : (ofB s).length = s.length := List.length_map ..
  rw [r26_Small_L1]
  by_cases hlt : i < s.length
  ·have hlt2 : i < (ofB s).length := by omega
   rw [lt_dec hlt2, cond_true, chk_ix hlt2, lt_eq, w64_ix (by omega)]
   cases cond (decide (65 ≤ gi l (i : Int))) (decide (gi l (i : Int) ≤ 90)) false with
   | true => exact ih (i + 1) _ (by omega) hlt
   | false => exact ih (i + 1) _ (by omega) hlt
  ·rw [ge_dec (by omega), cond_false]
   exact ⟨_, rfl⟩
theorem small_some (s : Str) (hs : s.length ≤ 1048576) : ∃ y, parseval_small FU s = some y ∧ r26_Small FU s = some y := by
 obtain ⟨r, hr⟩ := small_tot FU s hs FU 0 (ofB s) (by unfold FU; omega) (by omega)
 have h : r26_Small FU s = some (toB r) := by
  unfold r26_Small
  rw [show r26_Small_L1 FU s FU 0 (ofB s) = _ from hr]; rfl
 exact ⟨toB r, (small_eq FU s).trans h, h⟩
theorem named_L1 (m : Nat) (s y : Str) (hy : r26_Small m s = some y) (ls : List Str) (cs : List TColor) (hl : ls.length = cs.length) (hl2 : ls.length ≤ 1000) : ∀ (kk i : Nat), ls.length - i < kk → i ≤ ls.length →
  r26_Named_L1 m s ls cs kk (i : Int) = some (cond (decide (i + kx (ls.drop i) y < ls.length)) (.inl (gi cs ((i + kx (ls.drop i) y : Nat) : Int), 0)) (.inr ())) := by
 intro kk
 induction kk with
 | zero => intro i h; omega
 | succ kk ih =>
  intro i hk hi
  rw [r26_Named_L1]
  by_cases hlt : i < ls.length
  ·have hlt2 : i < cs.length := by omega
   rw [lt_dec hlt, cond_true, chk_ix hlt, hy, Option.bind_some, gi_nat ls i hlt, List.drop_eq_getElem_cons hlt, kx]
   cases hc : (ls[i] == y) with
   | true =>
    have he : (y == ls[i]) = true := by rw [eq_of_beq hc]; exact beq_self_eq_true _
    rw [cond_true, chk_ix hlt2, he, if_pos rfl, Nat.add_zero, decide_eq_true hlt, cond_true]
   | false =>
    have he : (y == ls[i]) = false := beq_eq_false_iff_ne.2 fun h => by rw [h, beq_self_eq_true] at hc; cases hc
    rw [cond_false, he, w64_ix (by omega), ih (i + 1) (by omega) hlt, if_neg (by decide), show i + 1 + kx (ls.drop (i + 1)) y = i + (kx (ls.drop (i + 1)) y + 1) by omega]
  ·rw [ge_dec (by omega), cond_false, decide_eq_false (by omega), cond_false]
def KEYS : List Str := [[98, 108, 97, 99, 107], [119, 104, 105, 116, 101], [114, 101, 100], [108, 105, 109, 101], [98, 108, 117, 101], [121, 101, 108, 108, 111, 119], [103, 114, 97, 121], [116, 114, 97, 110, 115, 112, 97, 114, 101, 110, 116]]
def nmP (x : Int) : Option (TColor × Int) := cond (!(decide (x < 8))) (some (TColor.mk 0 0 0 0, 6)) (some (TColor.mk (gi ([0, 255, 255, 0, 0, 255, 128, 0, 0] : List Int) x) (gi ([0, 255, 0, 255, 0, 255, 128, 0, 0] : List Int) x) (gi ([0, 255, 0, 0, 255, 0, 128, 0, 0] : List Int) x) (gi ([255, 255, 255, 255, 255, 255, 255, 0, 0] : List Int) x), 0))
theorem named_p (s y : Str) (h : parseval_small FU s = some y) : parseval_Named FU s = nmP (x_key KEYS y) := by
 unfold parseval_Named
 rw [h]
 rfl
theorem named_r (s y : Str) (h : r26_Small FU s = some y) : r26_Named FU s = Option.bind (some (cond (decide (kx KEYS y < 8)) (Sum.inl (gi r26_colors ((kx KEYS y : Nat) : Int), (0 : Int))) (Sum.inr ()))) fun (z : Sum (TColor × Int) Unit) => sumK z fun _ => some (TColor.mk 0 0 0 0, (6 : Int)) := by
 have hr := named_L1 FU s y h r26_names r26_colors rfl (by decide) FU 0 (by decide) (by decide)
 rw [List.drop_zero, Nat.zero_add] at hr
 unfold r26_Named
 rw [lt_eq, lt_eq, show r26_Named_L1 FU s r26_names r26_colors FU 0 = _ from hr]
 rfl
theorem named_both (s : Str) (hs : s.length ≤ 1048576) : ∃ c : TColor × Int, parseval_Named FU s = some c ∧ r26_Named FU s = some c := by
 obtain ⟨y, h1, h2⟩ := small_some s hs
 have hk := kx_le KEYS y
 rw [show KEYS.length = 8 from rfl] at hk
 rw [named_p s y h1, named_r s y h2]
 unfold x_key
 generalize kx KEYS y = n at hk
 rcases (by omega : n = 0 ∨ n = 1 ∨ n = 2 ∨ n = 3 ∨ n = 4 ∨ n = 5 ∨ n = 6 ∨ n = 7 ∨ n = 8) with h | h | h | h | h | h | h | h | h <;> subst h <;> exact ⟨_, rfl, rfl⟩
def hexB (n : Int) : Bool := cond (cond (cond (decide (n < 48)) true (decide (57 < n))) (cond (decide (n < 97)) true (decide (102 < n))) false) (cond (decide (n < 65)) true (decide (70 < n))) false
def hexV (n : Int) : Option Int := cond (cond (n == 95) ((16 : Int) == 0) false) none (cond (cond (decide (48 ≤ n)) (decide (n ≤ 57)) false) (some (wu8 (n - 48))) (cond (cond (decide (97 ≤ strconv_lower n)) (decide (strconv_lower n ≤ 122)) false) (some (wu8 (wu8 (strconv_lower n - 97) + 10))) none))
theorem hexV_all : ((List.range 256).all fun (n : Nat) => hexB (n : Int) || (match hexV (n : Int) with
  | some d => decide (0 ≤ d) && decide (d < 16)
  | none => false)) = true := by kernel_rfl
theorem hexV_at {n : Nat} (hn : n < 256) (h : hexB (n : Int) = false) : ∃ d : Nat, d < 16 ∧ hexV (n : Int) = some (d : Int) := by
 have h1 := nat_all hexV_all hn
 rw [h, Bool.false_or] at h1
 cases hv : hexV (n : Int) with
 | none => rw [hv] at h1; cases h1
 | some d =>
  rw [hv] at h1
  simp only [Bool.and_eq_true, decide_eq_true_eq] at h1
  exact ⟨d.toNat, by omega, by rw [show ((d.toNat : Nat) : Int) = d from by omega]⟩
theorem uint_L1 (m : Nat) (z : Str) (hl : z.length = 8) (hz : ∀ b ∈ z, hexB (b.toNat : Int) = false) : ∀ (kk i v : Nat), 8 - i < kk → i ≤ 8 → v < 16 ^ i →
  ∃ v' : Int, strconv_ParseUint_2_L1 m 16 (z, 16) 1152921504606846976 4294967296 kk false (v : Int) (i : Int) = some (.inr (false, v')) := by
 intro kk
 induction kk with
 | zero => intro i v h; omega
 | succ kk ih =>
  intro i v h hi hv
  rw [strconv_ParseUint_2_L1]
  have hob : (ofB z).length = 8 := by unfold ofB; rw [List.length_map, hl]
  by_cases h1 : i < 8
  ·have hi2 : i < z.length := by omega
   have hg : gi (ofB z) (i : Int) = ((z[i].toNat : Nat) : Int) := by
    rw [gi_nat _ i (by omega)]
    unfold ofB
    rw [List.getElem_map]
   obtain ⟨d, hdi, hx1⟩ := hexV_at z[i].toNat_lt (hz _ (List.getElem_mem hi2))
   generalize ((z[i].toNat : Nat) : Int) = c at *
   have e8 : 16 ^ 8 = 4294967296 := by decide
   have hp : 16 ^ (i + 1) ≤ 16 ^ 8 := Nat.pow_le_pow_right (by decide) (by omega)
   have hp1 : 16 ^ (i + 1) = 16 ^ i * 16 := Nat.pow_succ ..
   have hv2 : 16 * v + d < 16 ^ (i + 1) := by omega
   rw [show decide ((i : Int) < ln (ofB z)) = true from lt_dec (by omega), cond_true, chk_ix (by omega : i < (ofB z).length)]
   show ∃ v' : Int, Option.bind (Option.bind (lt (cond ((gi (ofB z) (i : Int)) == 95) ((16 : Int) == 0) false) _) _) _ = _
   rw [hg, lt_eq]
   have hstep : (cond (cond (c == 95) ((16 : Int) == 0) false) (Option.bind (some (Sum.inr (true, (v : Int)))) fun r125 => some (Sum.inl r125)) (
     lt (cond (decide (48 ≤ c)) (decide (c ≤ 57)) false) fun x126 =>
     cond x126 (some (Sum.inr (false, wu8 (c - 48)))) (
     lt (decide (97 ≤ strconv_lower c)) fun x131 =>
     lt (cond x131 (decide (strconv_lower c ≤ 122)) false) fun x132 =>
     cond x132 (lt (wu8 (strconv_lower c - 97)) fun x135 => some (Sum.inr (false, wu8 (x135 + 10)))) none)) : Option (Sum (Sum (Sum Int (Bool × Int)) (Bool × Int)) (Bool × Int))) = some (.inr (false, (d : Int))) := by
    simp only [lt_eq]
    unfold hexV at hx1
    revert hx1
    generalize (cond (c == 95) ((16 : Int) == 0) false) = b1
    generalize (cond (decide (48 ≤ c)) (decide (c ≤ 57)) false) = b2
    generalize (cond (decide (97 ≤ strconv_lower c)) (decide (strconv_lower c ≤ 122)) false) = b3
    intro hx1
    cases b1
    ·cases b2
     ·cases b3
      ·cases hx1
      ·have := Option.some.inj hx1
       simp only [cond_false, cond_true, this]
     ·have := Option.some.inj hx1
      simp only [cond_false, cond_true, this]
    ·cases hx1
   rw [hstep, Option.bind_some]
   have c1 : decide ((16 : Int) ≤ (d : Int)) = false := decide_eq_false (by omega)
   have c2 : decide ((1152921504606846976 : Int) ≤ (v : Int)) = false := decide_eq_false (by omega)
   have w1 : wu64 ((v : Int) * wu64 16) = ((16 * v : Nat) : Int) := by rw [show wu64 16 = 16 from rfl, wu64_id (by omega) (by omega)]; omega
   have w2 : wu64 (((16 * v : Nat) : Int) + wu64 (d : Int)) = ((16 * v + d : Nat) : Int) := by rw [wu64_id (x := (d : Int)) (by omega) (by omega), wu64_id (by omega) (by omega)]; omega
   show ∃ v' : Int, Option.bind (cond (decide ((wu8 16) ≤ (d : Int))) none (cond (decide ((1152921504606846976 : Int) ≤ (v : Int))) none _)) _ = _
   rw [show wu8 16 = 16 from rfl, c1, cond_false, c2, cond_false]
   show ∃ v' : Int, Option.bind (lt (wu64 ((wu64 ((v : Int) * wu64 16)) + wu64 (d : Int))) _) _ = _
   rw [w1, w2, lt_eq, decide_eq_false (show ¬ ((16 * v + d : Nat) : Int) < ((16 * v : Nat) : Int) from by omega), lt_eq]
   show ∃ v' : Int, Option.bind (lt (decide (wu64 ((4294967296 : Int) - 1) < ((16 * v + d : Nat) : Int))) _) _ = _
   rw [show wu64 ((4294967296 : Int) - 1) = 4294967295 from rfl, decide_eq_false (by omega), lt_eq, cond_false, Option.bind_some, w64_ix (by omega)]
   exact ih (i + 1) (16 * v + d) (by omega) (by omega) hv2
  ·have hi8 : i = 8 := by omega
   subst hi8
   rw [show decide (((8 : Nat) : Int) < ln (ofB z)) = false from ge_dec (by omega), cond_false]
   exact ⟨_, rfl⟩
theorem uint_ex (z : Str) (hl : z.length = 8) (hz : ∀ b ∈ z, hexB (b.toNat : Int) = false) : ∃ n, strconv_ParseUint FU z 16 32 = some n := by
 obtain ⟨v', h⟩ := uint_L1 FU z hl hz FU 0 0 (by decide) (by decide) (by decide)
 have hne : (z == []) = false := by
  cases z with
  | nil => cases hl
  | cons d r => rfl
 unfold strconv_ParseUint strconv_ParseUint_2
 rw [hne, cond_false]
 show ∃ n, Option.bind (Option.bind (strconv_ParseUint_2_L1 FU 16 (z, 16) 1152921504606846976 4294967296 FU false 0 0) _) _ = _
 rw [show strconv_ParseUint_2_L1 FU 16 (z, 16) 1152921504606846976 4294967296 FU false 0 0 = _ from h]
 exact ⟨_, rfl⟩
theorem hexL2_x (m : Nat) (z : Str) (hs : z.length ≤ 10) : ∀ (kk i : Nat), z.length - i < kk → i ≤ z.length →
  parseval_hash_L2 m z kk (i : Int) = cond ((z.drop i).all fun b => !hexB (b.toNat : Int)) (some (.inr ())) (some (.inl (c0, false))) := by
 intro kk
 induction kk with
 | zero => intro i h; omega
 | succ kk ih =>
  intro i h hi
  by_cases h1 : i < z.length
  ·have e : parseval_hash_L2 m z (kk + 1) (i : Int) = cond (hexB ((z[i].toNat : Nat) : Int)) (some (.inl (c0, false))) (parseval_hash_L2 m z kk ((i + 1 : Nat) : Int)) := by
    rw [parseval_hash_L2, lt_dec h1, cond_true, chk_ix h1, bat_nat z i h1, lt_eq, lt_eq, lt_eq, w64_ix (by omega)]
    rfl
   rw [e, ih (i + 1) (by omega) (by omega), List.drop_eq_getElem_cons h1, List.all_cons]
   cases hexB ((z[i].toNat : Nat) : Int) <;> rfl
  ·rw [parseval_hash_L2, ge_dec (by omega), cond_false, List.drop_eq_nil_of_le (by omega)]
   rfl
theorem dblx_L1 (m : Nat) (s : Str) (hs : s.length ≤ 10) : ∀ (kk i : Nat) (a : Str), s.length - i < kk → i ≤ s.length → a.length ≤ 2 * i → parseval_hash_L1 m s kk a (i : Int) = some (a ++ (s.drop i).flatMap fun b => [b, b]) := by
 intro kk
 induction kk with
 | zero => intro i a h; omega
 | succ kk ih =>
  intro i a h hi ha
  rw [parseval_hash_L1]
  by_cases h1 : i < s.length
  ·rw [lt_dec h1, cond_true, w64_ix (by omega), chk_pos ⟨by omega, by omega, by unfold ln; omega⟩, sub_byte h1, chk_pos (by unfold ln; simp), lt_eq, chk_pos (by unfold ln; simp only [List.length_append, List.length_cons, List.length_nil]; omega)]
   rw [ih (i + 1) _ (by omega) (by omega) (by simp only [List.length_append, List.length_cons, List.length_nil]; omega), List.drop_eq_getElem_cons h1, List.flatMap_cons]
   simp only [List.append_assoc]
   rfl
  ·rw [ge_dec (by omega), cond_false, List.drop_eq_nil_of_le (by omega)]
   simp
def hxs (s : Str) : Bool := s.all fun b => !hexB (b.toNat : Int)
def hok (s : Str) : Bool := cond ((ln s) == 3) true (cond ((ln s) == 4) true (cond ((ln s) == 6) true ((ln s) == 8))) && hxs s
theorem hxs_mem {s : Str} (h : hxs s = true) : ∀ b ∈ s, hexB (b.toNat : Int) = false := fun b hb => by
 have := List.all_eq_true.1 h b hb
 simpa using this
theorem hash_p (s : Str) (hs : s.length ≤ 1048570) : ∃ c, parseval_hash FU s = some (c, hok s) := by
 have key : ∀ z : Str, z.length ≤ 1048576 → ∃ c, (cond ((ln z) != 8) (some ((TColor.mk 0 0 0 0), false)) (
   Option.bind (parseval_hash_L2 FU z FU 0) fun (z51 : Sum (TColor × Bool) (Unit)) => sumK z51 fun s_z51 =>
   Option.bind (strconv_ParseUint FU z 16 32) fun y78 =>
   some ((TColor.mk (wu8 (Int.fdiv y78 (2 ^ 24))) (wu8 (Int.fdiv y78 (2 ^ 16))) (wu8 (Int.fdiv y78 (2 ^ 8))) (wu8 y78)), true)) : Option (TColor × Bool)) = some (c, ((ln z) == 8) && hxs z) := by
  intro z hz
  by_cases h8 : ln z = 8
  ·rw [h8, bne_self_eq_false, cond_false, beq_self_eq_true, Bool.true_and]
   have hl : z.length = 8 := by unfold ln at h8; omega
   have h := hexL2_x FU z (by omega) FU 0 (by unfold FU; omega) (Nat.zero_le _)
   rw [List.drop_zero] at h
   rw [show parseval_hash_L2 FU z FU 0 = _ from h]
   show ∃ c, Option.bind (cond (hxs z) (some (Sum.inr ())) (some (Sum.inl (c0, false)))) _ = some (c, hxs z)
   cases hx : hxs z
   ·exact ⟨_, rfl⟩
   ·obtain ⟨n, hn⟩ := uint_ex z hl (hxs_mem hx)
    rw [hn]
    exact ⟨_, rfl⟩
  ·rw [show (ln z != 8) = true from bne_iff_ne.2 h8, show (ln z == 8) = false from beq_eq_false_iff_ne.2 h8]
   exact ⟨_, rfl⟩
 have k2 : ∀ z : Str, z.length ≤ 1048570 → ∃ c, (Option.bind (cond ((ln z) == 6) (chk (ln z + ln ([102, 102] : Str) ≤ 9223372036854775807) (some (z ++ [102, 102]))) (some z)) fun (z36 : Str) =>
   cond ((ln z36) != 8) (some ((TColor.mk 0 0 0 0), false)) (
   Option.bind (parseval_hash_L2 FU z36 FU 0) fun (z51 : Sum (TColor × Bool) (Unit)) => sumK z51 fun s_z51 =>
   Option.bind (strconv_ParseUint FU z36 16 32) fun y78 =>
   some ((TColor.mk (wu8 (Int.fdiv y78 (2 ^ 24))) (wu8 (Int.fdiv y78 (2 ^ 16))) (wu8 (Int.fdiv y78 (2 ^ 8))) (wu8 y78)), true)) : Option (TColor × Bool)) = some (c, cond ((ln z) == 6) true ((ln z) == 8) && hxs z) := by
  intro z hz
  cases h6 : ((ln z) == 6)
  ·rw [cond_false, cond_false, Option.bind_some]; exact key z (by omega)
  ·rw [cond_true, cond_true, chk_pos (by unfold ln; simp only [List.length_cons, List.length_nil]; omega), Option.bind_some]
   obtain ⟨c, h⟩ := key (z ++ [102, 102]) (by simp only [List.length_append, List.length_cons, List.length_nil]; omega)
   have e8 : (ln (z ++ [102, 102]) == 8) = true := by
    have := eq_of_beq h6
    unfold ln at this ⊢
    simp only [List.length_append, List.length_cons, List.length_nil, beq_iff_eq]
    omega
   have ex : hxs (z ++ [102, 102]) = hxs z := by
    unfold hxs
    rw [List.all_append, show (([102, 102] : Str).all fun b => !hexB (b.toNat : Int)) = true from by decide, Bool.and_true]
   rw [e8, ex] at h
   exact ⟨c, h⟩
 unfold parseval_hash
 by_cases h34 : ln s = 3 ∨ ln s = 4
 ·have hl : s.length ≤ 10 := by unfold ln at h34; omega
  have hc : cond ((ln s) == 3) true ((ln s) == 4) = true := by
   rcases h34 with h | h <;> rw [h] <;> rfl
  have e1 := dblx_L1 FU s hl FU 0 [] (by unfold FU; omega) (Nat.zero_le _) (Nat.zero_le _)
  rw [hc, cond_true, show parseval_hash_L1 FU s FU [] 0 = _ from e1]
  simp only [Option.bind_some, List.drop_zero, List.nil_append]
  have fl : ∀ q : Str, (q.flatMap fun b => [b, b]).length = 2 * q.length := by
   intro q
   induction q with
   | nil => rfl
   | cons b r ih => rw [List.flatMap_cons, List.length_append, ih, List.length_cons, List.length_cons, List.length_cons, List.length_nil]; omega
  have fx : ∀ q : Str, hxs (q.flatMap fun b => [b, b]) = hxs q := by
   intro q
   induction q with
   | nil => rfl
   | cons b r ih =>
    unfold hxs at ih ⊢
    rw [List.flatMap_cons, List.all_append, ih, List.all_cons]
    cases h : (!hexB (b.toNat : Int)) <;> simp [h]
  obtain ⟨c, h⟩ := k2 (s.flatMap fun b => [b, b]) (by rw [fl]; omega)
  rw [fx] at h
  refine ⟨c, h.trans ?_⟩
  have e : cond (ln (s.flatMap fun b => [b, b]) == 6) true (ln (s.flatMap fun b => [b, b]) == 8) = true := by
   have : ln (s.flatMap fun b => [b, b]) = 2 * ln s := by unfold ln; rw [fl]; omega
   rw [this]
   rcases h34 with h | h <;> rw [h] <;> rfl
  rw [e]
  unfold hok
  rcases h34 with h | h <;> rw [h] <;> rfl
 ·have n3 : ((ln s) == 3) = false := beq_eq_false_iff_ne.2 (fun h => h34 (Or.inl h))
  have n4 : ((ln s) == 4) = false := beq_eq_false_iff_ne.2 (fun h => h34 (Or.inr h))
  rw [n3, n4, cond_false, cond_false, Option.bind_some]
  obtain ⟨c, h⟩ := k2 s hs
  refine ⟨c, h.trans ?_⟩
  unfold hok
  rw [n3, n4, cond_false, cond_false]
def dgI (n : Int) : Int := (r26_digit FU n).getD 0
theorem dgt_fu : ((List.range 256).all fun (n : Nat) => decide (r26_digit FU (n : Int) = some (dgI (n : Int))) && (decide (dgI (n : Int) < 0) == hexB (n : Int))) = true := by kernel_rfl
theorem dgt_at {n : Nat} (hn : n < 256) : r26_digit FU (n : Int) = some (dgI (n : Int)) ∧ decide (dgI (n : Int) < 0) = hexB (n : Int) := by
 have h := nat_all dgt_fu hn
 simp only [Bool.and_eq_true, decide_eq_true_eq, beq_iff_eq] at h
 exact h
theorem hashr_L1 (s : Str) (hs : s.length ≤ 1048576) : ∀ (kk i : Nat) (d : List Int), s.length - i < kk → i ≤ s.length → d.length = cond (decide ((ln s) ≤ 4)) (2 * i) i →
  (hxs (s.drop i) = false ∧ r26_hash_L1 FU s kk d (i : Int) = some (.inl (c0, false))) ∨ (hxs (s.drop i) = true ∧ ∃ d', r26_hash_L1 FU s kk d (i : Int) = some (.inr d') ∧ d'.length = cond (decide ((ln s) ≤ 4)) (2 * s.length) s.length) := by
 intro kk
 induction kk with
 | zero => intro i d h; omega
 | succ kk ih =>
  intro i d h hi hd
  have hdl : d.length ≤ 2 * i := by
   rw [hd]
   cases decide ((ln s) ≤ 4) <;> simp only [cond_true, cond_false] <;> omega
  rw [r26_hash_L1]
  by_cases h1 : i < s.length
  ·obtain ⟨e1, e2⟩ := dgt_at s[i].toNat_lt
   have hx : hxs (s.drop i) = ((!hexB (s[i].toNat : Int)) && hxs (s.drop (i + 1))) := by
    unfold hxs
    rw [List.drop_eq_getElem_cons h1, List.all_cons]
   rw [lt_dec h1, cond_true, chk_ix h1, bat_nat s i h1, e1, Option.bind_some, e2, hx]
   cases hh : hexB (s[i].toNat : Int)
   ·rw [cond_false, chk_pos (by unfold ln; simp only [List.length_cons, List.length_nil]; omega), lt_eq, Bool.not_false, Bool.true_and]
    cases h4 : decide ((ln s) ≤ 4)
    ·rw [h4] at hd
     rw [cond_false, Option.bind_some]
     dsimp only [sumK]
     rw [w64_ix (by omega)]
     have := ih (i + 1) (d ++ [dgI (s[i].toNat : Int)]) (by omega) (by omega) (by rw [h4, cond_false]; rw [cond_false] at hd; simp only [List.length_append, List.length_cons, List.length_nil]; omega)
     rw [h4] at this
     exact this
    ·rw [h4] at hd
     rw [cond_true, chk_pos (by unfold ln; simp only [List.length_append, List.length_cons, List.length_nil]; omega), lt_eq, Option.bind_some]
     dsimp only [sumK]
     rw [w64_ix (by omega)]
     have := ih (i + 1) (d ++ [dgI (s[i].toNat : Int)] ++ [dgI (s[i].toNat : Int)]) (by omega) (by omega) (by rw [h4, cond_true]; rw [cond_true] at hd; simp only [List.length_append, List.length_cons, List.length_nil]; omega)
     rw [h4] at this
     exact this
   ·left
    exact ⟨rfl, rfl⟩
  ·right
   rw [ge_dec (by omega), cond_false, List.drop_eq_nil_of_le (by omega)]
   refine ⟨rfl, d, rfl, ?_⟩
   have : i = s.length := by omega
   rw [hd, this]
theorem hashr_L2 (z : List Int) (hz : z.length = 8) : ∃ q, r26_hash_L2 FU z FU 0 [0, 0, 0, 0] = some q := by
 have st : ∀ (kk i : Nat) (q : List Int), 4 - i < kk → i ≤ 4 → ∃ q', r26_hash_L2 FU z kk (i : Int) q = some q' := by
  intro kk
  induction kk with
  | zero => intro i q h; omega
  | succ kk ih =>
   intro i q h hi
   rw [r26_hash_L2]
   by_cases h1 : i < 4
   ·have w1 : w64 (2 * (i : Int)) = ((2 * i : Nat) : Int) := by rw [w64_id (by omega) (by omega)]; omega
    have w2 : w64 (((2 * i : Nat) : Int) + 1) = ((2 * i + 1 : Nat) : Int) := w64_ix (by omega)
    rw [decide_eq_true (show (i : Int) < 4 by omega), cond_true, w1, w2, chk_ix (by omega), chk_ix (by omega), lt_eq, chk_pos ⟨by omega, by omega⟩, lt_eq, w64_ix (by omega)]
    exact ih (i + 1) _ (by omega) (by omega)
   ·rw [decide_eq_false (by omega), cond_false]
    exact ⟨_, rfl⟩
 exact st FU 0 _ (by unfold FU; omega) (by omega)
theorem hash_r (s : Str) (hs : s.length ≤ 1048570) : ∃ c, r26_hash FU s = some (c, hok s) := by
 unfold r26_hash
 rcases hashr_L1 s (by omega) FU 0 [] (by unfold FU; omega) (Nat.zero_le _) (by cases decide ((ln s) ≤ 4) <;> rfl) with ⟨hx, h⟩ | ⟨hx, d, h, hd⟩
 ·rw [List.drop_zero] at hx
  rw [show r26_hash_L1 FU s FU [] 0 = _ from h]
  unfold hok
  rw [hx, Bool.and_false]
  exact ⟨_, rfl⟩
 ·rw [List.drop_zero] at hx
  rw [show r26_hash_L1 FU s FU [] 0 = _ from h]
  unfold hok
  rw [hx, Bool.and_true, Option.bind_some]
  dsimp only [sumK]
  rw [lt_eq]
  have fin : ∀ z : List Int, z.length = 8 → ∃ c : TColor, (Option.bind (r26_hash_L2 FU z FU 0 [0, 0, 0, 0]) fun (z98 : List Int) =>
    chk (0 ≤ (0 : Int) ∧ (0 : Int) < (4 : Int)) <| chk (0 ≤ (1 : Int) ∧ (1 : Int) < (4 : Int)) <| chk (0 ≤ (2 : Int) ∧ (2 : Int) < (4 : Int)) <| chk (0 ≤ (3 : Int) ∧ (3 : Int) < (4 : Int)) <|
    some ((TColor.mk (gi z98 (0 : Int)) (gi z98 (1 : Int)) (gi z98 (2 : Int)) (gi z98 (3 : Int))), true)) = some (c, true) := by
   intro z hz
   obtain ⟨q, hq⟩ := hashr_L2 z hz
   rw [hq, Option.bind_some, chk_pos (by decide), chk_pos (by decide), chk_pos (by decide), chk_pos (by decide)]
   exact ⟨_, rfl⟩
  by_cases h3 : ln s = 3
  ·rw [h3] at hd ⊢
   have hl : d.length = 6 := by
    have h5 : d.length = 2 * s.length := hd
    unfold ln at h3
    omega
   show ∃ c, Option.bind (cond ((ln d) == 6) (chk (ln d + ln ([15, 15] : List Int) ≤ 1099511627776) (lt (d ++ ([15, 15] : List Int)) fun q87 => some q87)) (some d)) _ = some (c, true)
   rw [show ((ln d) == 6) = true from by unfold ln; rw [hl]; rfl, cond_true, chk_pos (by unfold ln; rw [hl]; decide), lt_eq, Option.bind_some]
   exact fin _ (by simp only [List.length_append, List.length_cons, List.length_nil]; omega)
  by_cases h4 : ln s = 4
  ·rw [h4] at hd ⊢
   have hl : d.length = 8 := by
    have h5 : d.length = 2 * s.length := hd
    unfold ln at h4
    omega
   show ∃ c, Option.bind (cond ((ln d) == 6) (chk (ln d + ln ([15, 15] : List Int) ≤ 1099511627776) (lt (d ++ ([15, 15] : List Int)) fun q87 => some q87)) (some d)) _ = some (c, true)
   rw [show ((ln d) == 6) = false from by unfold ln; rw [hl]; rfl, cond_false, Option.bind_some]
   exact fin _ hl
  by_cases h6 : ln s = 6
  ·rw [h6] at hd ⊢
   have hl : d.length = 6 := by
    have h5 : d.length = s.length := hd
    unfold ln at h6
    omega
   show ∃ c, Option.bind (cond ((ln d) == 6) (chk (ln d + ln ([15, 15] : List Int) ≤ 1099511627776) (lt (d ++ ([15, 15] : List Int)) fun q87 => some q87)) (some d)) _ = some (c, true)
   rw [show ((ln d) == 6) = true from by unfold ln; rw [hl]; rfl, cond_true, chk_pos (by unfold ln; rw [hl]; decide), lt_eq, Option.bind_some]
   exact fin _ (by simp only [List.length_append, List.length_cons, List.length_nil]; omega)
  by_cases h8 : ln s = 8
  ·rw [h8] at hd ⊢
   have hl : d.length = 8 := by
    have h5 : d.length = s.length := hd
    unfold ln at h8
    omega
   show ∃ c, Option.bind (cond ((ln d) == 6) (chk (ln d + ln ([15, 15] : List Int) ≤ 1099511627776) (lt (d ++ ([15, 15] : List Int)) fun q87 => some q87)) (some d)) _ = some (c, true)
   rw [show ((ln d) == 6) = false from by unfold ln; rw [hl]; rfl, cond_false, Option.bind_some]
   exact fin _ hl
  ·have n3 := beq_eq_false_iff_ne.2 h3
   have n4 := beq_eq_false_iff_ne.2 h4
   have n6 := beq_eq_false_iff_ne.2 h6
   have n8 := beq_eq_false_iff_ne.2 h8
   unfold bne
   rw [n3, n4, n6, n8]
   exact ⟨_, rfl⟩
end Go.Proofs.YtpgflfjmjppmeaaGreatDoor

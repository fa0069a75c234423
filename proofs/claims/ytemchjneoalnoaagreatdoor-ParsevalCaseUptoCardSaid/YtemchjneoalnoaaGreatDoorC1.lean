/-
 Small and capital letters: what is read from a text does not hang on them. No program in sight.
-/
import Derived.Test.YtemchjneoalnoaaGreatDoorK2
set_option linter.unusedVariables false
set_option maxRecDepth 100000
namespace Go.Proofs.YtemchjneoalnoaaGreatDoor
open Go Go.V Go.RowKit
def smC (c : Int) : Int := cond (cond (decide (65 ≤ c)) (decide (c ≤ 90)) false) (wu8 (wu8 (c + 97) - 65)) c
def upC (c : Int) : Int := cond (cond (decide (97 ≤ c)) (decide (c ≤ 122)) false) (wu8 (c - 32)) c
theorem smallx_L1 (m : Nat) (s : Str) (hs : s.length ≤ 1048576) : ∀ (kk i : Nat) (q : List Int), q.length = s.length → i ≤ s.length → s.length - i < kk →
  parseval_small_L1 m s kk (i : Int) q = some (q.take i ++ (q.drop i).map smC) := by
 intro kk
 induction kk with
 | zero => intro i q _ _ h; omega
 | succ kk ih =>
  intro i q hq hi hm
  have hl : (ofB s).length = s.length := by simp [ofB]
  rw [parseval_small_L1]
  by_cases h1 : i < s.length
  ·rw [lt_dec (by rw [hl]; exact h1), cond_true, chk_ix (by rw [hl]; exact h1), lt_eq, w64_ix (by omega)]
   have hg : gi q (i : Int) = q[i] := gi_nat q i (by omega)
   have hrest : ∀ v, parseval_small_L1 m s kk ((i + 1 : Nat) : Int) (q.set i v) = some (q.take i ++ v :: (q.drop (i + 1)).map smC) := fun v => by
    rw [ih (i + 1) (q.set i v) (by simpa using hq) (by omega) (by omega), take_set_drop q i v smC (by omega)]
   rw [List.drop_eq_getElem_cons (show i < q.length by omega), List.map_cons, hg, seti_nat, lt_eq]
   have hset : q.set i q[i] = q := by simp
   cases hb : (cond (decide (65 ≤ q[i])) (decide (q[i] ≤ 90)) false)
   ·have := hrest q[i]
    rw [hset] at this
    rw [cond_false, Option.bind_some, this]
    simp only [smC, hb, cond_false]
   ·rw [cond_true, Option.bind_some, hrest]
    simp only [smC, hb, cond_true]
  ·rw [ge_dec (by rw [hl]; omega), cond_false]
   rw [List.take_of_length_le (by omega), List.drop_eq_nil_of_le (by omega)]
   simp
theorem upx_L1 (m : Nat) (s : Str) (hs : s.length ≤ 1048576) : ∀ (kk i : Nat) (q : List Int), q.length = s.length → i ≤ s.length → s.length - i < kk →
  r26_Great_L1 m s kk (i : Int) q = some (q.take i ++ (q.drop i).map upC) := by
 intro kk
 induction kk with
 | zero => intro i q _ _ h; omega
 | succ kk ih =>
  intro i q hq hi hm
  have hl : (ofB s).length = s.length := by simp [ofB]
  rw [r26_Great_L1]
  by_cases h1 : i < s.length
  ·rw [lt_dec (by rw [hl]; exact h1), cond_true, chk_ix (by rw [hl]; exact h1), lt_eq, w64_ix (by omega)]
   have hg : gi q (i : Int) = q[i] := gi_nat q i (by omega)
   have hrest : ∀ v, r26_Great_L1 m s kk ((i + 1 : Nat) : Int) (q.set i v) = some (q.take i ++ v :: (q.drop (i + 1)).map upC) := fun v => by
    rw [ih (i + 1) (q.set i v) (by simpa using hq) (by omega) (by omega), take_set_drop q i v upC (by omega)]
   rw [List.drop_eq_getElem_cons (show i < q.length by omega), List.map_cons, hg, seti_nat, lt_eq]
   have hset : q.set i q[i] = q := by simp
   cases hb : (cond (decide (97 ≤ q[i])) (decide (q[i] ≤ 122)) false)
   ·have := hrest q[i]
    rw [hset] at this
    rw [cond_false, Option.bind_some, this]
    simp only [upC, hb, cond_false]
   ·rw [cond_true, Option.bind_some, hrest]
    simp only [upC, hb, cond_true]
  ·rw [ge_dec (by rw [hl]; omega), cond_false]
   rw [List.take_of_length_le (by omega), List.drop_eq_nil_of_le (by omega)]
   simp
def lo (b : UInt8) : UInt8 := UInt8.ofNat (smC (b.toNat : Int)).toNat
def up (b : UInt8) : UInt8 := UInt8.ofNat (upC (b.toNat : Int)).toNat
theorem small_x (s : Str) (hs : s.length ≤ 1048576) : parseval_small FU s = some (s.map lo) := by
 unfold parseval_small
 rw [show (0 : Int) = ((0 : Nat) : Int) from rfl, smallx_L1 FU s hs FU 0 (ofB s) (by simp [ofB]) (by omega) (by unfold FU; omega), Option.bind_some]
 congr 1
 simp only [List.take_zero, List.nil_append, List.drop_zero, toB, ofB, List.map_map]
 rfl
theorem up_x (s : Str) (hs : s.length ≤ 1048576) : r26_Great FU s = some (s.map up) := by
 unfold r26_Great
 rw [show (0 : Int) = ((0 : Nat) : Int) from rfl, upx_L1 FU s hs FU 0 (ofB s) (by simp [ofB]) (by omega) (by unfold FU; omega), Option.bind_some]
 congr 1
 simp only [List.take_zero, List.nil_append, List.drop_zero, toB, ofB, List.map_map]
 rfl
def hexN (b : UInt8) : Nat := match hexV (b.toNat : Int) with
 | some d => d.toNat
 | none => 0
theorem lo_all : ((List.range 256).all fun n => (lo (up (UInt8.ofNat n)) == lo (UInt8.ofNat n)) && (hexB ((lo (UInt8.ofNat n)).toNat : Int) == hexB ((UInt8.ofNat n).toNat : Int)) && (hexB ((UInt8.ofNat n).toNat : Int) || (hexN (lo (UInt8.ofNat n)) == hexN (UInt8.ofNat n)))) = true := by kernel_rfl
theorem lo_at (b : UInt8) : lo (up b) = lo b ∧ hexB ((lo b).toNat : Int) = hexB (b.toNat : Int) ∧ (hexB (b.toNat : Int) = false → hexN (lo b) = hexN b) := by
 have h := nat_all lo_all b.toNat_lt
 rw [UInt8.ofNat_toNat] at h
 simp only [Bool.and_eq_true, beq_iff_eq, Bool.or_eq_true] at h
 refine ⟨h.1.1, h.1.2, fun hb => ?_⟩
 rcases h.2 with h2 | h2
 ·rw [hb] at h2; cases h2
 ·exact h2
theorem lo_up (s : Str) : (s.map up).map lo = s.map lo := by
 rw [List.map_map]
 exact List.map_congr_left fun b _ => (lo_at b).1
theorem hexL2_x (m : Nat) (z : Str) (hs : z.length ≤ 10) : ∀ (kk i : Nat), z.length - i < kk → i ≤ z.length →
  parseval_hash_L2 m z kk (i : Int) = cond ((z.drop i).all fun b => !hexB (b.toNat : Int)) (some (.inr ())) (some (.inl (c0, false))) := by
 intro kk
 induction kk with
 | zero => intro i h; omega
 | succ kk ih =>
  intro i h hi
  by_cases h1 : i < z.length
  ·have e : parseval_hash_L2 m z (kk + 1) (i : Int) = cond (hexB ((z[i].toNat : Nat) : Int)) (some (.inl (c0, false))) (parseval_hash_L2 m z kk ((i + 1 : Nat) : Int)) := by
    rw [parseval_hash_L2, lt_dec h1, cond_true, chk_ix h1, bat_nat z i h1, lt_eq, lt_eq, lt_eq, w64_ix (by omega)]
    rfl
   rw [e, ih (i + 1) (by omega) (by omega), List.drop_eq_getElem_cons h1, List.all_cons]
   cases hexB ((z[i].toNat : Nat) : Int) <;> rfl
  ·rw [parseval_hash_L2, ge_dec (by omega), cond_false, List.drop_eq_nil_of_le (by omega)]
   rfl
theorem dblx_L1 (m : Nat) (s : Str) (hs : s.length ≤ 10) : ∀ (kk i : Nat) (a : Str), s.length - i < kk → i ≤ s.length → a.length ≤ 2 * i → parseval_hash_L1 m s kk a (i : Int) = some (a ++ (s.drop i).flatMap fun b => [b, b]) := by
 intro kk
 induction kk with
 | zero => intro i a h; omega
 | succ kk ih =>
  intro i a h hi ha
  rw [parseval_hash_L1]
  by_cases h1 : i < s.length
  ·rw [lt_dec h1, cond_true, w64_ix (by omega), chk_pos ⟨by omega, by omega, by unfold ln; omega⟩, sub_byte h1, chk_pos (by unfold ln; simp), lt_eq, chk_pos (by unfold ln; simp only [List.length_append, List.length_cons, List.length_nil]; omega)]
   rw [ih (i + 1) _ (by omega) (by omega) (by simp only [List.length_append, List.length_cons, List.length_nil]; omega), List.drop_eq_getElem_cons h1, List.flatMap_cons]
   simp only [List.append_assoc]
   rfl
  ·rw [ge_dec (by omega), cond_false, List.drop_eq_nil_of_le (by omega)]
   simp
theorem uintx_L1 (m : Nat) (z : Str) (hl : z.length = 8) (hz : ∀ b ∈ z, hexB (b.toNat : Int) = false) : ∀ (kk i v : Nat), 8 - i < kk → i ≤ 8 → v < 16 ^ i →
  strconv_ParseUint_2_L1 m 16 (z, 16) 1152921504606846976 4294967296 kk false (v : Int) (i : Int) = some (.inr (false, ((((z.drop i).map hexN).foldl (fun v d => 16 * v + d) v : Nat) : Int))) := by
 intro kk
 induction kk with
 | zero => intro i v h; omega
 | succ kk ih =>
  intro i v h hi hv
  rw [strconv_ParseUint_2_L1]
  have hob : (ofB z).length = 8 := by unfold ofB; rw [List.length_map, hl]
  by_cases h1 : i < 8
  ·have hi2 : i < z.length := by omega
   have hg : gi (ofB z) (i : Int) = ((z[i].toNat : Nat) : Int) := by
    rw [gi_nat _ i (by omega)]
    unfold ofB
    rw [List.getElem_map]
   obtain ⟨d, hdi, hx1⟩ := hexV_at z[i].toNat_lt (hz _ (List.getElem_mem hi2))
   have hN : hexN z[i] = d := by unfold hexN; rw [hx1]; rfl
   rw [List.drop_eq_getElem_cons hi2, List.map_cons, List.foldl_cons, hN]
   clear hN
   generalize ((z[i].toNat : Nat) : Int) = c at *
   have e8 : 16 ^ 8 = 4294967296 := by decide
   have hp : 16 ^ (i + 1) ≤ 16 ^ 8 := Nat.pow_le_pow_right (by decide) (by omega)
   have hp1 : 16 ^ (i + 1) = 16 ^ i * 16 := Nat.pow_succ ..
   have hv2 : 16 * v + d < 16 ^ (i + 1) := by omega
   rw [show decide ((i : Int) < ln (ofB z)) = true from lt_dec (by omega), cond_true, chk_ix (by omega : i < (ofB z).length)]
   generalize hR : (some (.inr (false, ((((z.drop (i + 1)).map hexN).foldl (fun v d => 16 * v + d) (16 * v + d) : Nat) : Int))) : Option (Sum Int (Bool × Int))) = R
   show Option.bind (Option.bind (lt (cond ((gi (ofB z) (i : Int)) == 95) ((16 : Int) == 0) false) _) _) _ = _
   rw [hg, lt_eq]
   have hstep : (cond (cond (c == 95) ((16 : Int) == 0) false) (Option.bind (some (Sum.inr (true, (v : Int)))) fun r125 => some (Sum.inl r125)) (
     lt (cond (decide (48 ≤ c)) (decide (c ≤ 57)) false) fun x126 =>
     cond x126 (some (Sum.inr (false, wu8 (c - 48)))) (
     lt (decide (97 ≤ strconv_lower c)) fun x131 =>
     lt (cond x131 (decide (strconv_lower c ≤ 122)) false) fun x132 =>
     cond x132 (lt (wu8 (strconv_lower c - 97)) fun x135 => some (Sum.inr (false, wu8 (x135 + 10)))) none)) : Option (Sum (Sum (Sum Int (Bool × Int)) (Bool × Int)) (Bool × Int))) = some (.inr (false, (d : Int))) := by
    simp only [lt_eq]
    unfold hexV at hx1
    revert hx1
    generalize (cond (c == 95) ((16 : Int) == 0) false) = b1
    generalize (cond (decide (48 ≤ c)) (decide (c ≤ 57)) false) = b2
    generalize (cond (decide (97 ≤ strconv_lower c)) (decide (strconv_lower c ≤ 122)) false) = b3
    intro hx1
    cases b1
    ·cases b2
     ·cases b3
      ·cases hx1
      ·have := Option.some.inj hx1
       simp only [cond_false, cond_true, this]
     ·have := Option.some.inj hx1
      simp only [cond_false, cond_true, this]
    ·cases hx1
   rw [hstep, Option.bind_some]
   have c1 : decide ((16 : Int) ≤ (d : Int)) = false := decide_eq_false (by omega)
   have c2 : decide ((1152921504606846976 : Int) ≤ (v : Int)) = false := decide_eq_false (by omega)
   have w1 : wu64 ((v : Int) * wu64 16) = ((16 * v : Nat) : Int) := by rw [show wu64 16 = 16 from rfl, wu64_id (by omega) (by omega)]; omega
   have w2 : wu64 (((16 * v : Nat) : Int) + wu64 (d : Int)) = ((16 * v + d : Nat) : Int) := by rw [wu64_id (x := (d : Int)) (by omega) (by omega), wu64_id (by omega) (by omega)]; omega
   show Option.bind (cond (decide ((wu8 16) ≤ (d : Int))) none (cond (decide ((1152921504606846976 : Int) ≤ (v : Int))) none _)) _ = _
   rw [show wu8 16 = 16 from rfl, c1, cond_false, c2, cond_false]
   show Option.bind (lt (wu64 ((wu64 ((v : Int) * wu64 16)) + wu64 (d : Int))) _) _ = _
   rw [w1, w2, lt_eq, decide_eq_false (show ¬ ((16 * v + d : Nat) : Int) < ((16 * v : Nat) : Int) from by omega), lt_eq]
   show Option.bind (lt (decide (wu64 ((4294967296 : Int) - 1) < ((16 * v + d : Nat) : Int))) _) _ = _
   rw [show wu64 ((4294967296 : Int) - 1) = 4294967295 from rfl, decide_eq_false (by omega), lt_eq, cond_false, Option.bind_some, w64_ix (by omega)]
   rw [← hR]
   exact ih (i + 1) (16 * v + d) (by omega) (by omega) hv2
  ·have hi8 : i = 8 := by omega
   subst hi8
   rw [show decide (((8 : Nat) : Int) < ln (ofB z)) = false from ge_dec (by omega), cond_false, List.drop_eq_nil_of_le (by omega)]
   rfl
theorem uint_x (z : Str) (hl : z.length = 8) (hz : ∀ b ∈ z, hexB (b.toNat : Int) = false) : strconv_ParseUint FU z 16 32 = some (((z.map hexN).foldl (fun v d => 16 * v + d) 0 : Nat) : Int) := by
 have h := uintx_L1 FU z hl hz FU 0 0 (by decide) (by decide) (by decide)
 rw [List.drop_zero] at h
 have hne : (z == []) = false := by
  cases z with
  | nil => cases hl
  | cons d r => rfl
 unfold strconv_ParseUint strconv_ParseUint_2
 rw [hne, cond_false]
 show Option.bind (Option.bind (strconv_ParseUint_2_L1 FU 16 (z, 16) 1152921504606846976 4294967296 FU false 0 0) _) _ = _
 rw [show strconv_ParseUint_2_L1 FU 16 (z, 16) 1152921504606846976 4294967296 FU false 0 0 = _ from h]
 rfl
theorem all_lo (z : Str) : (z.map lo).all (fun b => !hexB (b.toNat : Int)) = z.all fun b => !hexB (b.toNat : Int) := by
 rw [List.all_map]
 congr 1
 funext b
 exact congrArg not (lo_at b).2.1
theorem hexN_lo {z : Str} (h : ∀ b ∈ z, hexB (b.toNat : Int) = false) : (z.map lo).map hexN = z.map hexN := by
 rw [List.map_map]
 exact List.map_congr_left fun b hb => (lo_at b).2.2 (h b hb)
theorem hash_eq (s t : Str) (hs : s.length ≤ 1048570) (he : s.map lo = t.map lo) : parseval_hash FU s = parseval_hash FU t := by
 have key : ∀ z z' : Str, z.map lo = z'.map lo → (cond ((ln z) != 8) (some ((TColor.mk 0 0 0 0), false)) (
   Option.bind (parseval_hash_L2 FU z FU 0) fun (z51 : Sum (TColor × Bool) (Unit)) => sumK z51 fun s_z51 =>
   Option.bind (strconv_ParseUint FU z 16 32) fun y78 =>
   some ((TColor.mk (wu8 (Int.fdiv y78 (2 ^ 24))) (wu8 (Int.fdiv y78 (2 ^ 16))) (wu8 (Int.fdiv y78 (2 ^ 8))) (wu8 y78)), true)) : Option (TColor × Bool)) = (cond ((ln z') != 8) (some ((TColor.mk 0 0 0 0), false)) (
   Option.bind (parseval_hash_L2 FU z' FU 0) fun (z51 : Sum (TColor × Bool) (Unit)) => sumK z51 fun s_z51 =>
   Option.bind (strconv_ParseUint FU z' 16 32) fun y78 =>
   some ((TColor.mk (wu8 (Int.fdiv y78 (2 ^ 24))) (wu8 (Int.fdiv y78 (2 ^ 16))) (wu8 (Int.fdiv y78 (2 ^ 8))) (wu8 y78)), true)) : Option (TColor × Bool)) := by
  intro z z' hz
  have hlz : z.length = z'.length := by have := congrArg List.length hz; simpa using this
  have hln : ln z = ln z' := by unfold ln; rw [hlz]
  rw [hln]
  by_cases h8 : ln z' = 8
  ·rw [h8, bne_self_eq_false, cond_false, cond_false]
   have hl : z'.length = 8 := by unfold ln at h8; omega
   have hal : (z.all fun b => !hexB (b.toNat : Int)) = (z'.all fun b => !hexB (b.toNat : Int)) := by rw [← all_lo, hz, all_lo]
   have e1 := hexL2_x FU z (by omega) FU 0 (by unfold FU; omega) (Nat.zero_le _)
   have e2 := hexL2_x FU z' (by omega) FU 0 (by unfold FU; omega) (Nat.zero_le _)
   rw [List.drop_zero] at e1 e2
   rw [show parseval_hash_L2 FU z FU 0 = _ from e1, show parseval_hash_L2 FU z' FU 0 = _ from e2, hal]
   cases ha : (z'.all fun b => !hexB (b.toNat : Int))
   ·rfl
   ·have no : ∀ {y : Str}, (y.all fun b => !hexB (b.toNat : Int)) = true → ∀ b ∈ y, hexB (b.toNat : Int) = false := fun h b hb => by
     have := List.all_eq_true.1 h b hb
     simpa using this
    have n1 := no (hal.trans ha)
    have n2 := no ha
    rw [uint_x z (by omega) n1, uint_x z' hl n2, ← hexN_lo n1, hz, hexN_lo n2]
  ·rw [show (ln z' != 8) = true from bne_iff_ne.2 h8, cond_true, cond_true]
 have k2 : ∀ z z' : Str, z.length ≤ 1048570 → z.map lo = z'.map lo → (Option.bind (cond ((ln z) == 6) (chk (ln z + ln ([102, 102] : Str) ≤ 9223372036854775807) (some (z ++ [102, 102]))) (some z)) fun (z36 : Str) =>
   cond ((ln z36) != 8) (some ((TColor.mk 0 0 0 0), false)) (
   Option.bind (parseval_hash_L2 FU z36 FU 0) fun (z51 : Sum (TColor × Bool) (Unit)) => sumK z51 fun s_z51 =>
   Option.bind (strconv_ParseUint FU z36 16 32) fun y78 =>
   some ((TColor.mk (wu8 (Int.fdiv y78 (2 ^ 24))) (wu8 (Int.fdiv y78 (2 ^ 16))) (wu8 (Int.fdiv y78 (2 ^ 8))) (wu8 y78)), true)) : Option (TColor × Bool)) = (Option.bind (cond ((ln z') == 6) (chk (ln z' + ln ([102, 102] : Str) ≤ 9223372036854775807) (some (z' ++ [102, 102]))) (some z')) fun (z36 : Str) =>
   cond ((ln z36) != 8) (some ((TColor.mk 0 0 0 0), false)) (
   Option.bind (parseval_hash_L2 FU z36 FU 0) fun (z51 : Sum (TColor × Bool) (Unit)) => sumK z51 fun s_z51 =>
   Option.bind (strconv_ParseUint FU z36 16 32) fun y78 =>
   some ((TColor.mk (wu8 (Int.fdiv y78 (2 ^ 24))) (wu8 (Int.fdiv y78 (2 ^ 16))) (wu8 (Int.fdiv y78 (2 ^ 8))) (wu8 y78)), true)) : Option (TColor × Bool)) := by
  intro z z' hzl hz
  have hlz : z.length = z'.length := by have := congrArg List.length hz; simpa using this
  have hln : ln z = ln z' := by unfold ln; rw [hlz]
  rw [hln]
  cases ((ln z') == 6)
  ·rw [cond_false, cond_false, Option.bind_some, Option.bind_some]; exact key z z' hz
  ·have hck : ln z' + ln ([102, 102] : Str) ≤ 9223372036854775807 := by unfold ln; simp only [List.length_cons, List.length_nil]; omega
   rw [cond_true, cond_true, chk_pos hck, chk_pos hck, Option.bind_some, Option.bind_some]
   exact key _ _ (by rw [List.map_append, List.map_append, hz])
 have hlz : s.length = t.length := by have := congrArg List.length he; simpa using this
 have hln : ln s = ln t := by unfold ln; rw [hlz]
 unfold parseval_hash
 rw [hln]
 by_cases h34 : ln t = 3 ∨ ln t = 4
 ·have hl : t.length ≤ 10 := by unfold ln at h34; omega
  have hc : cond ((ln t) == 3) true ((ln t) == 4) = true := by
   rcases h34 with h | h <;> rw [h] <;> rfl
  have e1 := dblx_L1 FU s (by omega) FU 0 [] (by unfold FU; omega) (Nat.zero_le _) (Nat.zero_le _)
  have e2 := dblx_L1 FU t hl FU 0 [] (by unfold FU; omega) (Nat.zero_le _) (Nat.zero_le _)
  rw [hc, cond_true, cond_true, show parseval_hash_L1 FU s FU [] 0 = _ from e1, show parseval_hash_L1 FU t FU [] 0 = _ from e2]
  have fm : ∀ q : Str, (q.flatMap fun b => [b, b]).map lo = (q.map lo).flatMap fun b => [b, b] := by
   intro q
   induction q with
   | nil => rfl
   | cons b r ih => rw [List.flatMap_cons, List.map_append, ih]; rfl
  have fl : ∀ q : Str, (q.flatMap fun b => [b, b]).length = 2 * q.length := by
   intro q
   induction q with
   | nil => rfl
   | cons b r ih => rw [List.flatMap_cons, List.length_append, ih, List.length_cons, List.length_cons, List.length_cons, List.length_nil]; omega
  simp only [Option.bind_some, List.drop_zero, List.nil_append]
  exact k2 _ _ (by rw [fl]; omega) (by rw [fm, fm, he])
 ·have hc : cond ((ln t) == 3) true ((ln t) == 4) = false := by
   rw [show ((ln t) == 3) = false from beq_eq_false_iff_ne.2 (fun h => h34 (Or.inl h)), show ((ln t) == 4) = false from beq_eq_false_iff_ne.2 (fun h => h34 (Or.inr h))]; rfl
  rw [hc, cond_false, cond_false, Option.bind_some, Option.bind_some]
  exact k2 s t hs he
end Go.Proofs.YtemchjneoalnoaaGreatDoor

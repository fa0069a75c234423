/-
 The code's side alone: what is read for a property is told. No program in sight.
-/
import Derived.Test.YtpgflfjmjppmeaaGreatDoorT3
set_option linter.unusedVariables false
set_option maxRecDepth 100000
namespace Go.Proofs.YtpgflfjmjppmeaaGreatDoor
open Go Go.V Go.RowKit
theorem drop_get {s : Str} {i : Nat} (h : i < s.length) : s.drop i = s[i] :: s.drop (i + 1) := List.drop_eq_getElem_cons h
theorem nat_all {p : Nat → Bool} {k n : Nat} (h : ((List.range k).all p) = true) (hn : n < k) : p n = true := List.all_eq_true.1 h n (List.mem_range.2 hn)
theorem sub_byte {s : Str} {i : Nat} (h : i < s.length) : sub s (i : Int) ((i + 1 : Nat) : Int) = [s[i]] := by
 unfold sub
 rw [Int.toNat_natCast, Int.toNat_natCast, show i + 1 - i = 1 from by omega, drop_get h]
 rfl
abbrev WfC (x : TColor) : Prop := (Lit.int .u8 x.Red).wf = true ∧ (Lit.int .u8 x.Green).wf = true ∧ (Lit.int .u8 x.Blue).wf = true ∧ (Lit.int .u8 x.Alpha).wf = true
def c0 : TColor := TColor.mk 0 0 0 0
theorem z_tok (x : TValue) : x.Token.Text.length ≤ zV x ∧ x.Token.Unit.length ≤ zV x := by
 obtain ⟨t, l⟩ := x
 simp only [zV, zT, TValue.Token]
 omega
theorem small_L1 (m : Nat) (s : Str) (hs : s.length ≤ 1048576) : ∀ (kk i : Nat) (b : List Int), s.length - i < kk → i ≤ s.length → ∃ r, parseval_small_L1 m s kk (i : Int) b = some r := by
 intro kk
 induction kk with
 | zero => intro i b h; omega
 | succ kk ih =>
  intro i b h hi
  have hl : (ofB s).length = s.length := by simp [ofB]
  rw [parseval_small_L1]
  by_cases h1 : i < s.length
  ·rw [lt_dec (by rw [hl]; exact h1), cond_true, chk_ix (by rw [hl]; exact h1), lt_eq, w64_ix (by omega)]
   cases (cond (decide (65 ≤ gi b (i : Int))) (decide (gi b (i : Int) ≤ 90)) false)
   ·exact ih (i + 1) _ (by omega) (by omega)
   ·exact ih (i + 1) _ (by omega) (by omega)
  ·rw [ge_dec (by rw [hl]; omega), cond_false]
   exact ⟨_, rfl⟩
theorem small_ex (s : Str) (hs : s.length ≤ 1048576) : ∃ r, parseval_small FU s = some r := by
 obtain ⟨r, h⟩ := small_L1 FU s hs FU 0 (ofB s) (by unfold FU; omega) (Nat.zero_le _)
 exact ⟨toB r, by unfold parseval_small; rw [show (0 : Int) = ((0 : Nat) : Int) from rfl, h]; rfl⟩
theorem u8_wu (x : Int) : (Lit.int .u8 (wu8 x)).wf = true := by
 have h1 : 0 ≤ wu8 x ∧ wu8 x < 256 := by rw [wu8_mod]; omega
 have h2 : IntKind.u8.min = 0 := by decide
 have h3 : IntKind.u8.max = 255 := by decide
 simp only [Lit.wf, h2, h3, Bool.and_eq_true, decide_eq_true_eq]
 omega
def wfb (c : TColor) : Bool := (Lit.int .u8 c.Red).wf && (Lit.int .u8 c.Green).wf && (Lit.int .u8 c.Blue).wf && (Lit.int .u8 c.Alpha).wf
theorem wfb_iff {c : TColor} (h : wfb c = true) : WfC c := by
 unfold wfb at h
 simp only [Bool.and_eq_true] at h
 exact ⟨h.1.1.1, h.1.1.2, h.1.2, h.2⟩
theorem wf0 : WfC c0 := wfb_iff (by decide)
theorem names_all : ((List.range 9).all fun (n : Nat) => wfb (TColor.mk (gi ([0, 255, 255, 0, 0, 255, 128, 0, 0] : List Int) (n : Int)) (gi ([0, 255, 0, 255, 0, 255, 128, 0, 0] : List Int) (n : Int)) (gi ([0, 255, 0, 0, 255, 0, 128, 0, 0] : List Int) (n : Int)) (gi ([255, 255, 255, 255, 255, 255, 255, 0, 0] : List Int) (n : Int)))) = true := by kernel_rfl
theorem named_ex (s : Str) (hs : s.length ≤ 1048576) : ∃ c e, parseval_Named FU s = some (c, e) ∧ WfC c := by
 obtain ⟨y, hy⟩ := small_ex s hs
 unfold parseval_Named
 rw [hy]
 simp only [lt_eq, Option.bind_some]
 have hk := kx_le ([[98, 108, 97, 99, 107], [119, 104, 105, 116, 101], [114, 101, 100], [108, 105, 109, 101], [98, 108, 117, 101], [121, 101, 108, 108, 111, 119], [103, 114, 97, 121], [116, 114, 97, 110, 115, 112, 97, 114, 101, 110, 116]] : List Str) y
 unfold x_key
 generalize kx ([[98, 108, 97, 99, 107], [119, 104, 105, 116, 101], [114, 101, 100], [108, 105, 109, 101], [98, 108, 117, 101], [121, 101, 108, 108, 111, 119], [103, 114, 97, 121], [116, 114, 97, 110, 115, 112, 97, 114, 101, 110, 116]] : List Str) y = n at *
 have hn : n < 9 := by simp only [List.length_cons, List.length_nil] at hk; omega
 have hw := wfb_iff (nat_all names_all hn)
 cases (!(decide ((n : Int) < 8)))
 ·exact ⟨_, _, rfl, hw⟩
 ·exact ⟨_, _, rfl, wf0⟩
def hexB (n : Int) : Bool := cond (cond (cond (decide (n < 48)) true (decide (57 < n))) (cond (decide (n < 97)) true (decide (102 < n))) false) (cond (decide (n < 65)) true (decide (70 < n))) false
def hexV (n : Int) : Option Int := cond (cond (n == 95) ((16 : Int) == 0) false) none (cond (cond (decide (48 ≤ n)) (decide (n ≤ 57)) false) (some (wu8 (n - 48))) (cond (cond (decide (97 ≤ strconv_lower n)) (decide (strconv_lower n ≤ 122)) false) (some (wu8 (wu8 (strconv_lower n - 97) + 10))) none))
theorem hexV_all : ((List.range 256).all fun (n : Nat) => hexB (n : Int) || (match hexV (n : Int) with
  | some d => decide (0 ≤ d) && decide (d < 16)
  | none => false)) = true := by kernel_rfl
theorem hexV_at {n : Nat} (hn : n < 256) (h : hexB (n : Int) = false) : ∃ d : Nat, d < 16 ∧ hexV (n : Int) = some (d : Int) := by
 have h1 := nat_all hexV_all hn
 rw [h, Bool.false_or] at h1
 cases hv : hexV (n : Int) with
 | none => rw [hv] at h1; cases h1
 | some d =>
  rw [hv] at h1
  simp only [Bool.and_eq_true, decide_eq_true_eq] at h1
  exact ⟨d.toNat, by omega, by rw [show ((d.toNat : Nat) : Int) = d from by omega]⟩
theorem uint_L1 (m : Nat) (z : Str) (hl : z.length = 8) (hz : ∀ b ∈ z, hexB (b.toNat : Int) = false) : ∀ (kk i v : Nat), 8 - i < kk → i ≤ 8 → v < 16 ^ i →
  ∃ v' : Int, strconv_ParseUint_2_L1 m 16 (z, 16) 1152921504606846976 4294967296 kk false (v : Int) (i : Int) = some (.inr (false, v')) := by
 intro kk
 induction kk with
 | zero => intro i v h; omega
 | succ kk ih =>
  intro i v h hi hv
  rw [strconv_ParseUint_2_L1]
  have hob : (ofB z).length = 8 := by unfold ofB; rw [List.length_map, hl]
  by_cases h1 : i < 8
  ·have hi2 : i < z.length := by omega
   have hg : gi (ofB z) (i : Int) = ((z[i].toNat : Nat) : Int) := by
    rw [gi_nat _ i (by omega)]
    unfold ofB
    rw [List.getElem_map]
   obtain ⟨d, hdi, hx1⟩ := hexV_at z[i].toNat_lt (hz _ (List.getElem_mem hi2))
   generalize ((z[i].toNat : Nat) : Int) = c at *
   have e8 : 16 ^ 8 = 4294967296 := by decide
   have hp : 16 ^ (i + 1) ≤ 16 ^ 8 := Nat.pow_le_pow_right (by decide) (by omega)
   have hp1 : 16 ^ (i + 1) = 16 ^ i * 16 := Nat.pow_succ ..
   have hv2 : 16 * v + d < 16 ^ (i + 1) := by omega
   rw [show decide ((i : Int) < ln (ofB z)) = true from lt_dec (by omega), cond_true, chk_ix (by omega : i < (ofB z).length)]
   show ∃ v' : Int, Option.bind (Option.bind (lt (cond ((gi (ofB z) (i : Int)) == 95) ((16 : Int) == 0) false) _) _) _ = _
   rw [hg, lt_eq]
   have hstep : (cond (cond (c == 95) ((16 : Int) == 0) false) (Option.bind (some (Sum.inr (true, (v : Int)))) fun r125 => some (Sum.inl r125)) (
     lt (cond (decide (48 ≤ c)) (decide (c ≤ 57)) false) fun x126 =>
     cond x126 (some (Sum.inr (false, wu8 (c - 48)))) (
     lt (decide (97 ≤ strconv_lower c)) fun x131 =>
     lt (cond x131 (decide (strconv_lower c ≤ 122)) false) fun x132 =>
     cond x132 (lt (wu8 (strconv_lower c - 97)) fun x135 => some (Sum.inr (false, wu8 (x135 + 10)))) none)) : Option (Sum (Sum (Sum Int (Bool × Int)) (Bool × Int)) (Bool × Int))) = some (.inr (false, (d : Int))) := by
    simp only [lt_eq]
    unfold hexV at hx1
    revert hx1
    generalize (cond (c == 95) ((16 : Int) == 0) false) = b1
    generalize (cond (decide (48 ≤ c)) (decide (c ≤ 57)) false) = b2
    generalize (cond (decide (97 ≤ strconv_lower c)) (decide (strconv_lower c ≤ 122)) false) = b3
    intro hx1
    cases b1
    ·cases b2
     ·cases b3
      ·cases hx1
      ·have := Option.some.inj hx1
       simp only [cond_false, cond_true, this]
     ·have := Option.some.inj hx1
      simp only [cond_false, cond_true, this]
    ·cases hx1
   rw [hstep, Option.bind_some]
   have c1 : decide ((16 : Int) ≤ (d : Int)) = false := decide_eq_false (by omega)
   have c2 : decide ((1152921504606846976 : Int) ≤ (v : Int)) = false := decide_eq_false (by omega)
   have w1 : wu64 ((v : Int) * wu64 16) = ((16 * v : Nat) : Int) := by rw [show wu64 16 = 16 from rfl, wu64_id (by omega) (by omega)]; omega
   have w2 : wu64 (((16 * v : Nat) : Int) + wu64 (d : Int)) = ((16 * v + d : Nat) : Int) := by rw [wu64_id (x := (d : Int)) (by omega) (by omega), wu64_id (by omega) (by omega)]; omega
   show ∃ v' : Int, Option.bind (cond (decide ((wu8 16) ≤ (d : Int))) none (cond (decide ((1152921504606846976 : Int) ≤ (v : Int))) none _)) _ = _
   rw [show wu8 16 = 16 from rfl, c1, cond_false, c2, cond_false]
   show ∃ v' : Int, Option.bind (lt (wu64 ((wu64 ((v : Int) * wu64 16)) + wu64 (d : Int))) _) _ = _
   rw [w1, w2, lt_eq, decide_eq_false (show ¬ ((16 * v + d : Nat) : Int) < ((16 * v : Nat) : Int) from by omega), lt_eq]
   show ∃ v' : Int, Option.bind (lt (decide (wu64 ((4294967296 : Int) - 1) < ((16 * v + d : Nat) : Int))) _) _ = _
   rw [show wu64 ((4294967296 : Int) - 1) = 4294967295 from rfl, decide_eq_false (by omega), lt_eq, cond_false, Option.bind_some, w64_ix (by omega)]
   exact ih (i + 1) (16 * v + d) (by omega) (by omega) hv2
  ·have hi8 : i = 8 := by omega
   subst hi8
   rw [show decide (((8 : Nat) : Int) < ln (ofB z)) = false from ge_dec (by omega), cond_false]
   exact ⟨_, rfl⟩
theorem uint_ex (z : Str) (hl : z.length = 8) (hz : ∀ b ∈ z, hexB (b.toNat : Int) = false) : ∃ n, strconv_ParseUint FU z 16 32 = some n := by
 obtain ⟨v', h⟩ := uint_L1 FU z hl hz FU 0 0 (by decide) (by decide) (by decide)
 have hne : (z == []) = false := by
  cases z with
  | nil => cases hl
  | cons d r => rfl
 unfold strconv_ParseUint strconv_ParseUint_2
 rw [hne, cond_false]
 show ∃ n, Option.bind (Option.bind (strconv_ParseUint_2_L1 FU 16 (z, 16) 1152921504606846976 4294967296 FU false 0 0) _) _ = _
 rw [show strconv_ParseUint_2_L1 FU 16 (z, 16) 1152921504606846976 4294967296 FU false 0 0 = _ from h]
 exact ⟨_, rfl⟩
theorem dbl_L1 (m : Nat) (s : Str) (hs : s.length ≤ 10) : ∀ (kk i : Nat) (a : Str), s.length - i < kk → i ≤ s.length → a.length ≤ 2 * i → ∃ r, parseval_hash_L1 m s kk a (i : Int) = some r ∧ r.length ≤ 2 * s.length := by
 intro kk
 induction kk with
 | zero => intro i a h; omega
 | succ kk ih =>
  intro i a h hi ha
  rw [parseval_hash_L1]
  by_cases h1 : i < s.length
  ·rw [lt_dec h1, cond_true, w64_ix (by omega), chk_pos ⟨by omega, by omega, by unfold ln; omega⟩, sub_byte h1, chk_pos (by unfold ln; simp), lt_eq, chk_pos (by unfold ln; simp only [List.length_append, List.length_cons, List.length_nil]; omega)]
   exact ih (i + 1) _ (by omega) (by omega) (by simp only [List.length_append, List.length_cons, List.length_nil]; omega)
  ·rw [ge_dec (by omega), cond_false]
   exact ⟨_, rfl, by omega⟩
theorem hex_L2 (m : Nat) (z : Str) (hs : z.length ≤ 10) : ∀ (kk i : Nat), z.length - i < kk → i ≤ z.length → (∀ b ∈ z.take i, hexB (b.toNat : Int) = false) →
  parseval_hash_L2 m z kk (i : Int) = some (.inl (c0, false)) ∨ (parseval_hash_L2 m z kk (i : Int) = some (.inr ()) ∧ ∀ b ∈ z, hexB (b.toNat : Int) = false) := by
 intro kk
 induction kk with
 | zero => intro i h; omega
 | succ kk ih =>
  intro i h hi ht
  by_cases h1 : i < z.length
  ·have e : parseval_hash_L2 m z (kk + 1) (i : Int) = cond (hexB ((z[i].toNat : Nat) : Int)) (some (.inl (c0, false))) (parseval_hash_L2 m z kk ((i + 1 : Nat) : Int)) := by
    rw [parseval_hash_L2, lt_dec h1, cond_true, chk_ix h1, bat_nat z i h1, lt_eq, lt_eq, lt_eq, w64_ix (by omega)]
    rfl
   rw [e]
   cases hh : hexB ((z[i].toNat : Nat) : Int)
   ·refine ih (i + 1) (by omega) (by omega) fun b hb => ?_
    rw [List.take_succ_eq_append_getElem h1] at hb
    rcases List.mem_append.1 hb with hb | hb
    ·exact ht b hb
    ·rw [List.mem_singleton.1 hb]; exact hh
   ·exact Or.inl rfl
  ·rw [parseval_hash_L2, ge_dec (by omega), cond_false]
   rw [List.take_of_length_le (by omega)] at ht
   exact Or.inr ⟨rfl, ht⟩
theorem hash_ex (s : Str) (hs : s.length ≤ 1048570) : ∃ c b, parseval_hash FU s = some (c, b) ∧ WfC c := by
 have key : ∀ z : Str, z.length ≤ 1048576 → ∃ c b, (cond ((ln z) != 8) (some ((TColor.mk 0 0 0 0), false)) (
   Option.bind (parseval_hash_L2 FU z FU 0) fun (z51 : Sum (TColor × Bool) (Unit)) => sumK z51 fun s_z51 =>
   Option.bind (strconv_ParseUint FU z 16 32) fun y78 =>
   some ((TColor.mk (wu8 (Int.fdiv y78 (2 ^ 24))) (wu8 (Int.fdiv y78 (2 ^ 16))) (wu8 (Int.fdiv y78 (2 ^ 8))) (wu8 y78)), true)) : Option (TColor × Bool)) = some (c, b) ∧ WfC c := by
  intro z hz
  by_cases h8 : ln z = 8
  ·rw [h8, bne_self_eq_false, cond_false]
   have hl : z.length = 8 := by unfold ln at h8; omega
   rcases hex_L2 FU z (by omega) FU 0 (by unfold FU; omega) (Nat.zero_le _) (fun _ h => by cases h) with h | ⟨h, hall⟩
   ·rw [show parseval_hash_L2 FU z FU 0 = _ from h]
    exact ⟨_, _, rfl, wf0⟩
   ·rw [show parseval_hash_L2 FU z FU 0 = _ from h]
    obtain ⟨n, hn⟩ := uint_ex z hl hall
    rw [hn]
    exact ⟨_, _, rfl, u8_wu _, u8_wu _, u8_wu _, u8_wu _⟩
  ·rw [show (ln z != 8) = true from bne_iff_ne.2 h8]
   exact ⟨_, _, rfl, wf0⟩
 have k2 : ∀ z : Str, z.length ≤ 1048570 → ∃ c b, (Option.bind (cond ((ln z) == 6) (chk (ln z + ln ([102, 102] : Str) ≤ 9223372036854775807) (some (z ++ [102, 102]))) (some z)) fun (z36 : Str) =>
   cond ((ln z36) != 8) (some ((TColor.mk 0 0 0 0), false)) (
   Option.bind (parseval_hash_L2 FU z36 FU 0) fun (z51 : Sum (TColor × Bool) (Unit)) => sumK z51 fun s_z51 =>
   Option.bind (strconv_ParseUint FU z36 16 32) fun y78 =>
   some ((TColor.mk (wu8 (Int.fdiv y78 (2 ^ 24))) (wu8 (Int.fdiv y78 (2 ^ 16))) (wu8 (Int.fdiv y78 (2 ^ 8))) (wu8 y78)), true)) : Option (TColor × Bool)) = some (c, b) ∧ WfC c := by
  intro z hz
  cases ((ln z) == 6)
  ·rw [cond_false, Option.bind_some]; exact key z (by omega)
  ·rw [cond_true, chk_pos (by unfold ln; simp only [List.length_cons, List.length_nil]; omega), Option.bind_some]
   exact key _ (by simp only [List.length_append, List.length_cons, List.length_nil]; omega)
 unfold parseval_hash
 by_cases h34 : ln s = 3 ∨ ln s = 4
 ·have hl : s.length ≤ 10 := by unfold ln at h34; omega
  have hc : cond ((ln s) == 3) true ((ln s) == 4) = true := by
   rcases h34 with h | h <;> rw [h] <;> rfl
  obtain ⟨r, hr, hrl⟩ := dbl_L1 FU s hl FU 0 [] (by unfold FU; omega) (Nat.zero_le _) (Nat.zero_le _)
  rw [hc, cond_true, show parseval_hash_L1 FU s FU [] 0 = _ from hr, Option.bind_some, Option.bind_some]
  exact k2 r (by omega)
 ·have hc : cond ((ln s) == 3) true ((ln s) == 4) = false := by
   rw [show ((ln s) == 3) = false from beq_eq_false_iff_ne.2 (fun h => h34 (Or.inl h)), show ((ln s) == 4) = false from beq_eq_false_iff_ne.2 (fun h => h34 (Or.inr h))]; rfl
  rw [hc, cond_false, Option.bind_some]
  exact k2 s hs
def cn (s : Str) : Nat := s.countP fun b => b == 110
theorem cn_app (a : Str) (b : UInt8) : cn (a ++ [b]) = cn a + cond (b == 110) 1 0 := by
 unfold cn
 rw [List.countP_append]
 cases h : (b == 110) <;> simp [h]
theorem rgb1_ex (t : TToken) (u : Str) (l : List Int) (hu : u.length ≤ 1048576) (hl : l.length = cn u) : ∃ u' l', parseval_rgb_1 t u l = some (u', l') ∧ u'.length ≤ u.length + 1 ∧ l'.length = cn u' := by
 have hcu : cn u ≤ u.length := List.countP_le_length
 have ap : ∀ b : UInt8, (u ++ [b]).length ≤ u.length + 1 := fun b => by simp
 have no : ∀ b : UInt8, (b == 110) = false → l.length = cn (u ++ [b]) := fun b h => by rw [cn_app, h, hl]; rfl
 unfold parseval_rgb_1
 have ck : ∀ {α : Type} (b : α), (ln u + ln [b] ≤ 9223372036854775807) := fun b => by unfold ln; simp only [List.length_cons, List.length_nil]; omega
 cases (t.Kind == 13)
 ·rw [cond_false]
  cases (t.Kind == 10)
  ·rw [cond_false]
   cases (t.Kind == 18)
   ·rw [cond_false, lt_eq]
    cases (cond (t.Kind == 9) (t.Text == [47]) false)
    ·rw [cond_false, chk_pos (ck _)]
     exact ⟨_, _, rfl, ap _, no 120 rfl⟩
    ·rw [cond_true, chk_pos (ck _)]
     exact ⟨_, _, rfl, ap _, no 47 rfl⟩
   ·rw [cond_true, chk_pos (ck _)]
    exact ⟨_, _, rfl, ap _, no 44 rfl⟩
  ·rw [cond_true, chk_pos (ck _), chk_pos (by unfold ln; simp only [List.length_cons, List.length_nil]; omega), lt_eq]
   refine ⟨_, _, rfl, ap _, ?_⟩
   rw [cn_app, List.length_append, hl]
   rfl
 ·exact ⟨_, _, rfl, by omega, hl⟩
theorem rgb_L1 (m : Nat) (l : List TValue) (hl : l.length ≤ 1048576) : ∀ (kk i : Nat) (ns : List Int) (u : Str), l.length - i < kk → i ≤ l.length → u.length ≤ i → ns.length = cn u →
  ∃ u' ns', parseval_rgb_L1 m l kk (i : Int) ns u = some (u', ns') ∧ ns'.length = cn u' := by
 intro kk
 induction kk with
 | zero => intro i ns u h; omega
 | succ kk ih =>
  intro i ns u h hi hu hn
  rw [parseval_rgb_L1]
  by_cases h1 : i < l.length
  ·obtain ⟨u', l', e1, e2, e3⟩ := rgb1_ex (gi l (i : Int)).Token u ns (by omega) hn
   rw [lt_dec h1, cond_true, chk_ix h1, e1, Option.bind_some, w64_ix (by omega)]
   exact ih (i + 1) l' u' (by omega) (by omega) (by omega) e3
  ·rw [ge_dec (by omega), cond_false]
   exact ⟨_, _, rfl, hn⟩
theorem rgb2_ex (u : List Int) (i : Nat) (hi : i < u.length) : ∃ x, parseval_rgb_2 (i : Int) u = some (wu8 x) := by
 unfold parseval_rgb_2
 rw [chk_ix hi, lt_eq]
 exact ⟨_, rfl⟩
theorem rgb_ex (l : List TValue) (hl : l.length ≤ 1048576) : ∃ c b, parseval_rgb FU l = some (c, b) ∧ WfC c := by
 obtain ⟨u, ns, h1, h2⟩ := rgb_L1 FU l hl FU 0 [] [] (by unfold FU; omega) (Nat.zero_le _) (Nat.zero_le _) rfl
 have fin : ∀ q : List Int, q.length = 4 → ∃ c b, (Option.bind (parseval_rgb_2 0 q) fun y90 =>
   Option.bind (parseval_rgb_2 1 q) fun y91 =>
   Option.bind (parseval_rgb_2 2 q) fun y92 =>
   chk (0 ≤ (3 : Int) ∧ (3 : Int) < ln q) <|
   lt (if (gi q (3 : Int)) < 1000 then (gi q (3 : Int)) else 1000) fun x94 =>
   lt (w64 (Int.tdiv (w64 ((if 0 < x94 then x94 else 0) * 255)) 1000)) fun x95 =>
   some ((TColor.mk y90 y91 y92 (wu8 x95)), true)) = some (c, b) ∧ WfC c := by
  intro q hq
  obtain ⟨a, ha⟩ := rgb2_ex q 0 (by omega)
  obtain ⟨b, hb⟩ := rgb2_ex q 1 (by omega)
  obtain ⟨c, hc⟩ := rgb2_ex q 2 (by omega)
  rw [show parseval_rgb_2 0 q = _ from ha, Option.bind_some, show parseval_rgb_2 1 q = _ from hb, Option.bind_some, show parseval_rgb_2 2 q = _ from hc, Option.bind_some, chk_pos ⟨by decide, by unfold ln; omega⟩, lt_eq, lt_eq]
  exact ⟨_, _, rfl, u8_wu _, u8_wu _, u8_wu _, u8_wu _⟩
 have e0 : ∀ w : Str, (u == w) = true → ns.length = cn w := fun w h => by rw [← eq_of_beq h]; exact h2
 unfold parseval_rgb
 rw [show parseval_rgb_L1 FU l FU 0 [] [] = _ from h1, Option.bind_some]
 dsimp only
 have three : (cond (u == [110, 110, 110]) (some (u == [110, 110, 110])) (some (u == [110, 44, 110, 44, 110])) : Option Bool) = some (u == [110, 110, 110] || u == [110, 44, 110, 44, 110]) := by
  cases (u == [110, 110, 110]) <;> rfl
 have four : (cond (u == [110, 110, 110, 47, 110]) (some (u == [110, 110, 110, 47, 110])) (lt (u == [110, 44, 110, 44, 110, 44, 110]) fun x72 => some x72) : Option Bool) = some (u == [110, 110, 110, 47, 110] || u == [110, 44, 110, 44, 110, 44, 110]) := by
  rw [lt_eq]
  cases (u == [110, 110, 110, 47, 110]) <;> rfl
 rw [three, Option.bind_some, four]
 cases h3 : (u == [110, 110, 110] || u == [110, 44, 110, 44, 110])
 ·rw [cond_false, Option.bind_some]
  cases h4 : (u == [110, 110, 110, 47, 110] || u == [110, 44, 110, 44, 110, 44, 110])
  ·exact ⟨_, _, rfl, wf0⟩
  ·rw [cond_true, Option.bind_some]
   refine fin ns ?_
   rcases Bool.or_eq_true _ _ |>.mp h4 with h | h
   ·exact e0 _ h
   ·exact e0 _ h
 ·have hl3 : ns.length = 3 := by
   rcases Bool.or_eq_true _ _ |>.mp h3 with h | h
   ·exact e0 _ h
   ·exact e0 _ h
  rw [cond_true, chk_pos (by unfold ln; simp only [List.length_cons, List.length_nil]; omega), lt_eq, Option.bind_some]
  exact fin (ns ++ [1000]) (by simp only [List.length_append, List.length_cons, List.length_nil]; omega)
theorem color_ex (v : TValue) (hv : zV v ≤ 1048576) : ∃ c b, parseval_color FU v = some (c, b) ∧ WfC c := by
 have ht : v.Token.Text.length + 6 ≤ zV v := by
  obtain ⟨t, l⟩ := v
  simp only [zV, zT, TValue.Token]
  omega
 have hk := z_kid v
 have hl := z_len v.List_
 unfold parseval_color
 cases (v.Token.Kind == 1)
 ·rw [cond_false]
  cases (v.Token.Kind == 4)
  ·rw [cond_false]
   cases (v.Token.Kind == 2)
   ·exact ⟨_, _, rfl, wf0⟩
   ·obtain ⟨y, hy⟩ := small_ex v.Token.Text (by omega)
    rw [cond_true, hy, Option.bind_some, lt_eq]
    cases (cond (y == [114, 103, 98]) true (y == [114, 103, 98, 97]))
    ·exact ⟨_, _, rfl, wf0⟩
    ·obtain ⟨c, b, h1, h2⟩ := rgb_ex v.List_ (by omega)
     rw [cond_true, h1]
     exact ⟨c, b, rfl, h2⟩
  ·obtain ⟨c, b, h1, h2⟩ := hash_ex v.Token.Text (by omega)
   rw [cond_true, h1]
   exact ⟨c, b, rfl, h2⟩
 ·obtain ⟨c, e, h1, h2⟩ := named_ex v.Token.Text (by omega)
  rw [cond_true, h1]
  exact ⟨c, _, rfl, h2⟩
theorem chk_app {β : Type} (a b : List TVal) (k : Option β) (ha : a.length ≤ 10) (hb : b.length ≤ 10) : chk (ln a + ln b ≤ 1099511627776) k = k := chk_pos (by unfold ln; omega)
theorem maybe_ex (v : TValue) (hv : zV v ≤ 1048576) : ∃ l, parseval_maybe FU v = some l ∧ l.length ≤ 4 := by
 have ht : v.Token.Text.length ≤ 1048576 ∧ v.Token.Unit.length ≤ 1048576 := by have := z_tok v; omega
 obtain ⟨c, b, h1, hw⟩ := color_ex v hv
 unfold parseval_maybe
 rw [h1, Option.bind_some]
 dsimp only
 have hfst : ∃ q : List TVal, (cond b (chk (ln ([] : List TVal) + ln ([(TVal.mk 7 [] 0 c)] : List TVal) ≤ 1099511627776) (lt (([] : List TVal) ++ ([(TVal.mk 7 [] 0 c)] : List TVal)) fun q36 => some q36)) (some ([] : List TVal)) : Option (List TVal)) = some q ∧ q.length ≤ 1 := by
  cases b
  ·exact ⟨[], rfl, by decide⟩
  ·rw [cond_true, chk_app _ _ _ (by decide) (by simp), lt_eq]
   exact ⟨_, rfl, by simp⟩
 obtain ⟨q, hq, ql⟩ := hfst
 rw [hq, Option.bind_some]
 have ln1 : ∀ (z : List TVal) (x : TVal) (k : Nat), z.length ≤ k → (z ++ [x]).length ≤ k + 1 := fun z x k h => by simp only [List.length_append, List.length_cons, List.length_nil]; omega
 cases (v.Token.Kind == 1)
 ·rw [cond_false]
  cases (v.Token.Kind == 12)
  ·rw [cond_false]
   cases (v.Token.Kind == 10)
   ·exact ⟨q, rfl, by omega⟩
   ·rw [cond_true]
    have h2 : ∃ r : List TVal, (cond v.Token.Flag (chk (ln q + ln ([(TVal.mk 6 [] (w64 (Int.tdiv v.Token.Num 1000)) (TColor.mk 0 0 0 0))] : List TVal) ≤ 1099511627776) (lt (q ++ ([(TVal.mk 6 [] (w64 (Int.tdiv v.Token.Num 1000)) (TColor.mk 0 0 0 0))] : List TVal)) fun q132 => some q132)) (some q) : Option (List TVal)) = some r ∧ r.length ≤ 2 := by
     cases v.Token.Flag
     ·exact ⟨q, rfl, by omega⟩
     ·rw [cond_true, chk_app _ _ _ (by omega) (by simp), lt_eq]
      exact ⟨_, rfl, ln1 _ _ 1 ql⟩
    obtain ⟨r, hr, rl⟩ := h2
    rw [hr, Option.bind_some, chk_app _ _ _ (by omega) (by simp), lt_eq]
    cases (v.Token.Num == 0)
    ·exact ⟨_, rfl, Nat.le_trans (ln1 _ _ 2 rl) (by decide)⟩
    ·rw [cond_true, chk_app _ _ _ (Nat.le_trans (ln1 _ _ 2 rl) (by decide)) (by simp), lt_eq]
     exact ⟨_, rfl, ln1 _ _ 3 (ln1 _ _ 2 rl)⟩
  ·obtain ⟨y, hy⟩ := small_ex v.Token.Unit ht.2
   rw [cond_true, hy, Option.bind_some, lt_eq, lt_eq]
   cases (decide (0 < gi ([2, 3, 4, 0] : List Int) (x_key ([[112, 120], [101, 109], [114, 101, 109]] : List Str) y)))
   ·exact ⟨q, rfl, by omega⟩
   ·rw [cond_true, chk_app _ _ _ (by omega) (by simp), lt_eq]
    exact ⟨_, rfl, Nat.le_trans (ln1 _ _ 1 ql) (by decide)⟩
 ·obtain ⟨y, hy⟩ := small_ex v.Token.Text ht.1
  rw [cond_true, hy, Option.bind_some, chk_app _ _ _ (by omega) (by simp), lt_eq, lt_eq]
  cases (y == [99, 117, 114, 114, 101, 110, 116, 99, 111, 108, 111, 114])
  ·exact ⟨_, rfl, Nat.le_trans (ln1 _ _ 1 ql) (by decide)⟩
  ·rw [cond_true, chk_app _ _ _ (Nat.le_trans (ln1 _ _ 1 ql) (by decide)) (by simp), lt_eq]
   exact ⟨_, rfl, Nat.le_trans (ln1 _ _ 2 (ln1 _ _ 1 ql)) (by decide)⟩
theorem check_ex (v : TVal) : ∃ e, props_Check v = some e := by
 have fin : ∀ b : Bool, ∃ e : Int, (cond b (some 8) (some 0) : Option Int) = some e := fun b => by cases b <;> exact ⟨_, rfl⟩
 unfold props_Check
 cases (v.Kind == 1) <;> cases (v.Kind == 6) <;> cases (v.Kind == 2) <;> cases (v.Kind == 3) <;> cases (v.Kind == 4) <;> cases (v.Kind == 5) <;> cases (v.Kind == 7) <;> cases (v.Kind == 8) <;> simp only [cond_true, cond_false, Option.bind_some, sumK, lt_eq] <;> first | exact fin _ | exact ⟨_, rfl⟩
end Go.Proofs.YtpgflfjmjppmeaaGreatDoor

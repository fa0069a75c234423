/-
  Names in a text: what two readers of names compute is the same.
-/
import Derived.Test.YtfancfogkhclfaaGreatDoorPN
import Derived.KernelRfl
set_option linter.unusedVariables false
namespace Go.V
open Go
theorem byte_all {p : Nat → Bool} (h : ((List.range 256).all p) = true) (b : UInt8) : p b.toNat = true := List.all_eq_true.1 h b.toNat (List.mem_range.2 b.toNat_lt)
theorem nat_all {p : Nat → Bool} {k n : Nat} (h : ((List.range k).all p) = true) (hn : n < k) : p n = true := List.all_eq_true.1 h n (List.mem_range.2 hn)
theorem pk_tst (f : Int → Bool) (s : Str) (i : Nat) (d : Int) (h : f d = false) : f (pk s i d) = tst (fun b => f (b.toNat : Int)) s i := by
  unfold pk tst
  cases s[i]? with
  | none => exact h
  | some b => rfl
theorem w32_id {x : Int} (h : -2147483648 ≤ x) (h' : x < 2147483648) : w32 x = x := by
  show IntKind.i32.wrap x = x
  unfold IntKind.wrap
  simp only [IntKind.bits, IntKind.signed, Bool.true_and]
  split <;> rename_i hh <;> simp only [ge_iff_le, decide_eq_true_eq] at hh <;> omega
theorem wu32_id {x : Int} (h : 0 ≤ x) (h' : x < 4294967296) : wu32 x = x := by
  show IntKind.u32.wrap x = _
  simp only [IntKind.wrap, IntKind.bits, IntKind.signed, Bool.false_and, Bool.false_eq_true, if_false]
  exact Int.emod_eq_of_lt h h'
theorem toB_ofB (s : Str) : toB (ofB s) = s := by
  unfold toB ofB
  rw [List.map_map]
  conv => rhs; rw [← List.map_id s]
  refine List.map_congr_left fun b _ => ?_
  show UInt8.ofNat ((b.toNat : Int).toNat) = b
  rw [Int.toNat_natCast]
  exact UInt8.ofNat_toNat
theorem ofB_toB : ∀ (l : List Int), (∀ x ∈ l, 0 ≤ x ∧ x < 256) → ofB (toB l) = l
  | [], _ => rfl
  | x :: l, h => by
    have hx := h x List.mem_cons_self
    have ih := ofB_toB l fun y hy => h y (List.mem_cons_of_mem _ hy)
    show ((UInt8.ofNat x.toNat).toNat : Int) :: ofB (toB l) = x :: l
    rw [ih, UInt8.toNat_ofNat']
    congr 1
    omega
theorem ofB_app (a b : Str) : ofB (a ++ b) = ofB a ++ ofB b := List.map_append ..
theorem ofB_len (a : Str) : (ofB a).length = a.length := List.length_map ..
theorem ibit_or64 (a b k : Nat) (h : 2 ^ k * a + b < 9223372036854775808) (hb : b < 2 ^ k) : ibit .or .i64 ((2 ^ k * a : Nat) : Int) (b : Int) = ((2 ^ k * a + b : Nat) : Int) := by
  show w64 ((BitVec.ofInt 64 ((2 ^ k * a : Nat) : Int) ||| BitVec.ofInt 64 (b : Int)).toNat : Int) = _
  have e1 : (BitVec.ofInt 64 ((2 ^ k * a : Nat) : Int) ||| BitVec.ofInt 64 (b : Int)).toNat = 2 ^ k * a + b := by
    rw [BitVec.toNat_or]
    have h1 : (BitVec.ofInt 64 ((2 ^ k * a : Nat) : Int)).toNat = 2 ^ k * a := by
      simp only [BitVec.toNat_ofInt]
      omega
    have h2 : (BitVec.ofInt 64 (b : Int)).toNat = b := by
      simp only [BitVec.toNat_ofInt]
      omega
    rw [h1, h2, Nat.two_pow_add_eq_or_of_lt hb]
  rw [e1]
  exact w64_id (by omega) (by omega)
end Go.V
namespace Go.Proofs.YtfancfogkhclfaaGreatDoor
open Go Go.V
set_option maxRecDepth 100000
/-! ## Bytes of names -/
def fst1 (b : UInt8) : Bool := token_first (b.toNat : Int)
def let1 (b : UInt8) : Bool := token_letter (b.toNat : Int)
def spc1 (b : UInt8) : Bool := token_space (b.toNat : Int)
def hexI (s : Str) (i : Nat) : Int := token_hex (pk s i (-1))
theorem starts_all : ((List.range 256).all fun n => token_first (n : Int) == r02_Starts (n : Int)) = true := by kernel_rfl
theorem letter_all : ((List.range 256).all fun n => token_letter (n : Int) == r02_Letter (n : Int)) = true := by kernel_rfl
theorem space_all : ((List.range 256).all fun n => token_space (n : Int) == r02_Space (n : Int)) = true := by kernel_rfl
theorem hex_all : ((List.range 256).all fun n => token_hex (n : Int) == r02_Hex (n : Int) && (decide (-1 ≤ token_hex (n : Int)) && decide (token_hex (n : Int) ≤ 15))) = true := by kernel_rfl
theorem first_t (s : Str) (i : Nat) : token_first (pk s i (-1)) = tst fst1 s i := pk_tst token_first s i (-1) (by kernel_rfl)
theorem letter_t (s : Str) (i : Nat) : token_letter (pk s i (-1)) = tst let1 s i := pk_tst token_letter s i (-1) (by kernel_rfl)
theorem space_t (s : Str) (i : Nat) : token_space (pk s i (-1)) = tst spc1 s i := pk_tst token_space s i (-1) (by kernel_rfl)
theorem first_r (s : Str) (i : Nat) : r02_Starts (pk s i 0) = tst fst1 s i := by
  rw [pk_tst r02_Starts s i 0 (by kernel_rfl)]
  congr 1
  funext b
  exact (eq_of_beq (byte_all starts_all b)).symm
theorem letter_r (s : Str) (i : Nat) : r02_Letter (pk s i 0) = tst let1 s i := by
  rw [pk_tst r02_Letter s i 0 (by kernel_rfl)]
  congr 1
  funext b
  exact (eq_of_beq (byte_all letter_all b)).symm
theorem space_r (s : Str) (i : Nat) : r02_Space (pk s i 0) = tst spc1 s i := by
  rw [pk_tst r02_Space s i 0 (by kernel_rfl)]
  congr 1
  funext b
  exact (eq_of_beq (byte_all space_all b)).symm
theorem hex_r {s : Str} {i : Nat} (h : i < s.length) : r02_Hex (bat s (i : Int)) = hexI s i := by
  rw [bat_pk s i (-1) h]
  unfold hexI pk
  rw [List.getElem?_eq_getElem h]
  have := byte_all hex_all s[i]
  rw [Bool.and_eq_true] at this
  exact (eq_of_beq this.1).symm
theorem hex_end {s : Str} {i : Nat} (h : s.length ≤ i) : hexI s i = -1 := by
  unfold hexI pk
  rw [List.getElem?_eq_none h]
  show token_hex (-1) = -1
  kernel_rfl
theorem hex_bd (s : Str) (i : Nat) : -1 ≤ hexI s i ∧ hexI s i ≤ 15 := by
  rcases Nat.lt_or_ge i s.length with h | h
  · unfold hexI pk
    rw [List.getElem?_eq_getElem h]
    have := byte_all hex_all s[i]
    simp only [Bool.and_eq_true, decide_eq_true_eq] at this
    exact this.2
  · rw [hex_end h]; omega
/-! ## Escapes and names -/
def esc (s : Str) (i : Nat) : Bool := cond (tst (isb 92) s i) (!(tst (isb 10) s (i + 1))) false
theorem pk_ne (s : Str) (i : Nat) (d : Int) (c : Nat) (hd : d ≠ c) : (pk s i d != (c : Int)) = !(tst (isb c) s i) := by
  rw [← pk_is s i d c hd]; rfl
theorem esc_t (s : Str) (i n : Nat) (h : i + n < 1000000) : token_scanner_escape s (i : Int) (n : Int) = some (esc s (i + n)) := by
  unfold token_scanner_escape esc
  rw [peek_nat s i n (by omega), Option.bind_some, show (92 : Int) = ((92 : Nat) : Int) from rfl, pk_is _ _ _ _ (by omega), w64_ix (by omega), peek_nat s i (n + 1) (by omega)]
  cases tst (isb 92) s (i + n)
  · rfl
  · simp only [cond_true, Option.bind_some]
    rw [show (10 : Int) = ((10 : Nat) : Int) from rfl, pk_ne _ _ _ _ (by omega)]
    rfl
theorem esc_r (s : Str) (i : Nat) (h : i < 1000000) : r02_Escape s (i : Int) = some (esc s i) := by
  unfold r02_Escape esc
  rw [at_nat, Option.bind_some, show (92 : Int) = ((92 : Nat) : Int) from rfl, pk_is _ _ _ _ (by omega), w64_ix (by omega), at_nat]
  cases tst (isb 92) s i
  · rfl
  · simp only [cond_true, Option.bind_some]
    rw [show (10 : Int) = ((10 : Nat) : Int) from rfl, pk_ne _ _ _ _ (by omega)]
def nam (s : Str) (i : Nat) : Bool := cond (tst (isb 45) s i) (cond (cond (tst fst1 s (i + 1)) true (tst (isb 45) s (i + 1))) true (esc s (i + 1))) (cond (tst fst1 s i) true (esc s i))
theorem nam_t (s : Str) (i n : Nat) (h : i + n < 900000) : token_scanner_name s (i : Int) (n : Int) = some (nam s (i + n)) := by
  unfold token_scanner_name nam
  rw [peek_nat s i n (by omega), Option.bind_some, show (45 : Int) = ((45 : Nat) : Int) from rfl, pk_ne _ _ _ _ (by omega), w64_ix (by omega)]
  cases tst (isb 45) s (i + n)
  · simp only [Bool.not_false, cond_true, cond_false, Option.bind_some]
    rw [first_t, esc_t s i n (by omega)]
    cases tst fst1 s (i + n) <;> rfl
  · simp only [Bool.not_true, cond_true, cond_false]
    rw [peek_nat s i (n + 1) (by omega), Option.bind_some, first_t, esc_t s i (n + 1) (by omega)]
    rw [Nat.add_assoc i n 1]
    cases tst fst1 s (i + (n + 1))
    · simp only [cond_false, Option.bind_some]
      rw [pk_is _ _ _ _ (by omega)]
      cases tst (isb 45) s (i + (n + 1)) <;> rfl
    · rfl
theorem nam_r (s : Str) (i : Nat) (h : i < 900000) : r02_NameAt s (i : Int) = some (nam s i) := by
  unfold r02_NameAt nam
  rw [at_nat, Option.bind_some, show (45 : Int) = ((45 : Nat) : Int) from rfl, pk_is _ _ _ _ (by omega), w64_ix (by omega)]
  cases tst (isb 45) s i
  · simp only [cond_false, Option.bind_some]
    rw [first_r, esc_r s i (by omega)]
    cases tst fst1 s i <;> rfl
  · simp only [cond_true]
    rw [at_nat, Option.bind_some, first_r, esc_r s (i + 1) (by omega)]
    cases tst fst1 s (i + 1)
    · simp only [cond_false, Option.bind_some]
      rw [pk_is _ _ _ _ (by omega)]
      cases tst (isb 45) s (i + 1) <;> rfl
    · rfl
/-! ## Runes -/
def runeI (r : Nat) : List Int :=
  if r < 128 then [(r : Int)] else
  if r < 2048 then [((192 + r / 64 : Nat) : Int), ((128 + r % 64 : Nat) : Int)] else
  if r < 55296 ∨ (57343 < r ∧ r ≤ 65535) then [((224 + r / 4096 : Nat) : Int), ((128 + r / 64 % 64 : Nat) : Int), ((128 + r % 64 : Nat) : Int)] else
  if 65535 < r ∧ r ≤ 1114111 then [((240 + r / 262144 : Nat) : Int), ((128 + r / 4096 % 64 : Nat) : Int), ((128 + r / 64 % 64 : Nat) : Int), ((128 + r % 64 : Nat) : Int)] else [239, 191, 189]
theorem rune_bd (r : Nat) (x : Int) (h : x ∈ runeI r) : 0 ≤ x ∧ x < 256 := by
  unfold runeI at h
  split at h
  · simp only [List.mem_cons, List.not_mem_nil, or_false] at h; omega
  · split at h
    · simp only [List.mem_cons, List.not_mem_nil, or_false] at h; omega
    · split at h
      · simp only [List.mem_cons, List.not_mem_nil, or_false] at h; omega
      · split at h <;> simp only [List.mem_cons, List.not_mem_nil, or_false] at h <;> omega
theorem rune_len (r : Nat) : 1 ≤ (runeI r).length ∧ (runeI r).length ≤ 4 := by
  unfold runeI
  split
  · simp
  · split
    · simp
    · split
      · simp
      · split <;> simp
theorem or_all : ((List.range 256).all fun n => ibit .or .u8 128 (ibit .and .u8 (n : Int) 63) == ((128 + n % 64 : Nat) : Int)) = true := by kernel_rfl
theorem or2_all : ((List.range 32).all fun n => ibit .or .u8 192 (n : Int) == ((192 + n : Nat) : Int)) = true := by kernel_rfl
theorem or3_all : ((List.range 16).all fun n => ibit .or .u8 224 (n : Int) == ((224 + n : Nat) : Int)) = true := by kernel_rfl
theorem or4_all : ((List.range 8).all fun n => ibit .or .u8 240 (n : Int) == ((240 + n : Nat) : Int)) = true := by kernel_rfl
theorem or_at {n : Nat} (h : n < 256) : ibit .or .u8 128 (ibit .and .u8 (n : Int) 63) = ((128 + n % 64 : Nat) : Int) := by
  have := nat_all or_all h
  exact eq_of_beq this
theorem or2_at {n : Nat} (h : n < 32) : ibit .or .u8 192 (n : Int) = ((192 + n : Nat) : Int) := by
  have := nat_all or2_all h
  exact eq_of_beq this
theorem or3_at {n : Nat} (h : n < 16) : ibit .or .u8 224 (n : Int) = ((224 + n : Nat) : Int) := by
  have := nat_all or3_all h
  exact eq_of_beq this
theorem or4_at {n : Nat} (h : n < 8) : ibit .or .u8 240 (n : Int) = ((240 + n : Nat) : Int) := by
  have := nat_all or4_all h
  exact eq_of_beq this
theorem low6 (y : Nat) : ibit .or .u8 128 (ibit .and .u8 (wu8 (y : Int)) 63) = ((128 + y % 64 : Nat) : Int) := by
  have e : wu8 (y : Int) = ((y % 256 : Nat) : Int) := by rw [wu8_mod]; omega
  rw [e, or_at (Nat.mod_lt y (by decide))]
  congr 2
  omega
theorem shr6 (r : Nat) : Int.fdiv (r : Int) (2 ^ 6) = ((r / 64 : Nat) : Int) := by rw [fdiv_pos (by omega) (by decide)]; omega
theorem shr12 (r : Nat) : Int.fdiv (r : Int) (2 ^ 12) = ((r / 4096 : Nat) : Int) := by rw [fdiv_pos (by omega) (by decide)]; omega
theorem shr18 (r : Nat) : Int.fdiv (r : Int) (2 ^ 18) = ((r / 262144 : Nat) : Int) := by rw [fdiv_pos (by omega) (by decide)]; omega
theorem dec_nat (a b : Nat) : decide ((a : Int) ≤ (b : Int)) = decide (a ≤ b) := by simp
theorem rune_t (b : List Int) (r : Nat) (hr : r < 16777216) (hb : b.length < 100000000) : unicode_utf8_AppendRune b (r : Int) = some (b ++ runeI r) := by
  unfold unicode_utf8_AppendRune
  rw [wu32_id (by omega) (by omega)]
  by_cases h1 : r < 128
  · rw [decide_eq_true (show (r : Int) ≤ 127 by omega), cond_true, wu8_id (by omega) (by omega), lt_eq, chk_pos (by unfold ln; simp only [List.length_cons, List.length_nil]; omega)]
    unfold runeI
    rw [if_pos h1]
  · rw [decide_eq_false (show ¬ (r : Int) ≤ 127 by omega), cond_false]
    unfold unicode_utf8_appendRuneNonASCII
    rw [wu32_id (by omega) (by omega)]
    by_cases h2 : r < 2048
    · rw [decide_eq_true (show (r : Int) ≤ 2047 by omega), cond_true, lt_eq, lt_eq, lt_eq, shr6, low6, wu8_id (x := ((r / 64 : Nat) : Int)) (by omega) (by omega), or2_at (show r / 64 < 32 by omega), chk_pos (by unfold ln; simp only [List.length_cons, List.length_nil]; omega)]
      unfold runeI
      rw [if_neg h1, if_pos h2]
      rfl
    · rw [decide_eq_false (show ¬ (r : Int) ≤ 2047 by omega), cond_false]
      have hz : (cond (decide ((r : Int) < 55296)) (some (decide ((r : Int) < 55296))) (lt (cond (decide (57343 < (r : Int))) (decide ((r : Int) ≤ 65535)) false) fun x25 => some x25)) = some (decide (r < 55296 ∨ (57343 < r ∧ r ≤ 65535))) := by
        by_cases h3 : r < 55296
        · rw [decide_eq_true (show (r : Int) < 55296 by omega), decide_eq_true (Or.inl h3), cond_true]
        · rw [decide_eq_false (show ¬ (r : Int) < 55296 by omega), cond_false, lt_eq]
          by_cases h4 : 57343 < r
          · rw [decide_eq_true (show (57343 : Int) < (r : Int) by omega), cond_true]
            by_cases h5 : r ≤ 65535
            · rw [decide_eq_true (show (r : Int) ≤ 65535 by omega), decide_eq_true (Or.inr ⟨h4, h5⟩)]
            · rw [decide_eq_false (show ¬ (r : Int) ≤ 65535 by omega), decide_eq_false (by omega)]
          · rw [decide_eq_false (show ¬ (57343 : Int) < (r : Int) by omega), cond_false, decide_eq_false (by omega)]
      rw [hz, Option.bind_some]
      by_cases h3 : r < 55296 ∨ (57343 < r ∧ r ≤ 65535)
      · rw [decide_eq_true h3, cond_true, lt_eq, lt_eq, lt_eq, lt_eq, shr12, shr6, low6, low6, wu8_id (x := ((r / 4096 : Nat) : Int)) (by omega) (by omega), or3_at (show r / 4096 < 16 by omega), chk_pos (by unfold ln; simp only [List.length_cons, List.length_nil]; omega)]
        unfold runeI
        rw [if_neg h1, if_neg h2, if_pos h3]
        rfl
      · rw [decide_eq_false h3, cond_false, lt_eq]
        by_cases h4 : 65535 < r ∧ r ≤ 1114111
        · rw [decide_eq_true (show (65535 : Int) < (r : Int) by omega), cond_true, decide_eq_true (show (r : Int) ≤ 1114111 by omega), cond_true, lt_eq, lt_eq, lt_eq, lt_eq, lt_eq, shr18, shr12, shr6, low6, low6, low6, wu8_id (x := ((r / 262144 : Nat) : Int)) (by omega) (by omega), or4_at (show r / 262144 < 8 by omega), chk_pos (by unfold ln; simp only [List.length_cons, List.length_nil]; omega)]
          unfold runeI
          rw [if_neg h1, if_neg h2, if_neg h3, if_pos h4]
          rfl
        · have hc : (cond (decide ((65535 : Int) < (r : Int))) (decide ((r : Int) ≤ 1114111)) false) = false := by
            by_cases h5 : 65535 < r
            · rw [decide_eq_true (show (65535 : Int) < (r : Int) by omega), cond_true, decide_eq_false (by omega)]
            · rw [decide_eq_false (show ¬ (65535 : Int) < (r : Int) by omega), cond_false]
          rw [hc, cond_false, lt_eq, chk_pos (by unfold ln; simp only [List.length_cons, List.length_nil]; omega)]
          unfold runeI
          rw [if_neg h1, if_neg h2, if_neg h3, if_neg h4]
          rfl
def rune0 (n : Nat) : Nat := if n = 0 then 65533 else n
theorem rune_r0 : r02_UTF8 0 = toB (runeI (rune0 0)) := by kernel_rfl
theorem rune_r (n : Nat) (hn : n < 16777216) : r02_UTF8 (n : Int) = toB (runeI (rune0 n)) := by
  have t64 : ∀ k : Nat, k < 16777216 → w64 (Int.tdiv (k : Int) 64) = ((k / 64 : Nat) : Int) := fun k hk => by rw [tdiv_pos (by omega), w64_id (by omega) (by omega)]; omega
  have t4096 : w64 (Int.tdiv (n : Int) 4096) = ((n / 4096 : Nat) : Int) := by rw [tdiv_pos (by omega), w64_id (by omega) (by omega)]; omega
  have t262144 : w64 (Int.tdiv (n : Int) 262144) = ((n / 262144 : Nat) : Int) := by rw [tdiv_pos (by omega), w64_id (by omega) (by omega)]; omega
  have m64 : ∀ k : Nat, Int.tmod (k : Int) 64 = ((k % 64 : Nat) : Int) := fun k => by rw [tmod_pos (by omega)]; omega
  have sum : ∀ c k : Nat, c ≤ 240 → k < 64 → w64 ((c : Int) + ((k : Nat) : Int)) = ((c + k : Nat) : Int) := fun c k hc hk => by rw [w64_id (by omega) (by omega)]; omega
  have by8 : ∀ k : Nat, k < 256 → wu8 ((k : Nat) : Int) = ((k : Nat) : Int) := fun k hk => wu8_id (by omega) (by omega)
  by_cases h0 : n = 0
  · rw [h0]; exact rune_r0
  · unfold r02_UTF8
    rw [lt_eq]
    have e0 : rune0 n = n := by unfold rune0; rw [if_neg h0]
    rw [e0, show ((n : Int) == 0) = false from beq_eq_false_iff_ne.2 (by omega), cond_false]
    by_cases hl : (55296 ≤ n ∧ n ≤ 57343) ∨ 1114111 < n
    · have hc : cond (cond (decide (55296 ≤ (n : Int))) (decide ((n : Int) ≤ 57343)) false) true (decide (1114111 < (n : Int))) = true := by
        by_cases h1 : 55296 ≤ n
        · rw [decide_eq_true (show 55296 ≤ (n : Int) by omega), cond_true]
          by_cases h2 : n ≤ 57343
          · rw [decide_eq_true (show (n : Int) ≤ 57343 by omega)]; rfl
          · rw [decide_eq_false (show ¬ (n : Int) ≤ 57343 by omega), cond_false, decide_eq_true (show 1114111 < (n : Int) by omega)]
        · omega
      rw [hc, cond_true]
      unfold runeI
      rw [if_neg (by omega), if_neg (by omega), if_neg (by omega), if_neg (by omega)]
      rfl
    · have hc : cond (cond (decide (55296 ≤ (n : Int))) (decide ((n : Int) ≤ 57343)) false) true (decide (1114111 < (n : Int))) = false := by
        by_cases h1 : 55296 ≤ n
        · rw [decide_eq_true (show 55296 ≤ (n : Int) by omega), cond_true, decide_eq_false (show ¬ (n : Int) ≤ 57343 by omega), cond_false, decide_eq_false (show ¬ 1114111 < (n : Int) by omega)]
        · rw [decide_eq_false (show ¬ 55296 ≤ (n : Int) by omega), cond_false, cond_false, decide_eq_false (show ¬ 1114111 < (n : Int) by omega)]
      rw [hc, cond_false]
      by_cases h1 : n < 128
      · rw [decide_eq_true (show (n : Int) < 128 by omega), cond_true, by8 n (by omega)]
        unfold runeI
        rw [if_pos h1]
      · rw [decide_eq_false (show ¬ (n : Int) < 128 by omega), cond_false]
        by_cases h2 : n < 2048
        · rw [decide_eq_true (show (n : Int) < 2048 by omega), cond_true, lt_eq, t64 n hn, m64]
          unfold runeI
          rw [if_neg h1, if_pos h2]
          have a1 := sum 192 (n / 64) (by decide) (by omega)
          have a2 := sum 128 (n % 64) (by decide) (by omega)
          have a3 := by8 (192 + n / 64) (by omega)
          have a4 := by8 (128 + n % 64) (by omega)
          rw [show ((192 : Nat) : Int) = 192 from rfl] at a1
          rw [show ((128 : Nat) : Int) = 128 from rfl] at a2
          rw [a1, a2, a3, a4]
        · rw [decide_eq_false (show ¬ (n : Int) < 2048 by omega), cond_false]
          have a2 := sum 128 (n % 64) (by decide) (by omega)
          have a4 := by8 (128 + n % 64) (by omega)
          have a5 := sum 128 (n / 64 % 64) (by decide) (by omega)
          have a6 := by8 (128 + n / 64 % 64) (by omega)
          rw [show ((128 : Nat) : Int) = 128 from rfl] at a2 a5
          by_cases h3 : n < 65536
          · rw [decide_eq_true (show (n : Int) < 65536 by omega), cond_true, lt_eq, lt_eq, lt_eq, t4096, t64 n hn, m64, m64]
            unfold runeI
            rw [if_neg h1, if_neg h2, if_pos (by omega)]
            have a1 := sum 224 (n / 4096) (by decide) (by omega)
            have a3 := by8 (224 + n / 4096) (by omega)
            rw [show ((224 : Nat) : Int) = 224 from rfl] at a1
            rw [a1, a2, a3, a4, a5, a6]
          · rw [decide_eq_false (show ¬ (n : Int) < 65536 by omega), cond_false, lt_eq, lt_eq, lt_eq, lt_eq, t262144, t4096, t64 n hn, m64, m64, m64]
            unfold runeI
            rw [if_neg h1, if_neg h2, if_neg (by omega), if_pos (by omega)]
            have a1 := sum 240 (n / 262144) (by decide) (by omega)
            have a3 := by8 (240 + n / 262144) (by omega)
            have a7 := sum 128 (n / 4096 % 64) (by decide) (by omega)
            have a8 := by8 (128 + n / 4096 % 64) (by omega)
            rw [show ((240 : Nat) : Int) = 240 from rfl] at a1
            rw [show ((128 : Nat) : Int) = 128 from rfl] at a7
            rw [a1, a2, a3, a4, a5, a6, a7, a8]
/-! ## Digits of an escape -/
def hexR (s : Str) : Nat → Nat → Nat → Nat × Nat
  | 0, n, a => (n, a)
  | c + 1, n, a => if hexI s a < 0 then (n, a) else hexR s c (16 * n + (hexI s a).toNat) (a + 1)
theorem hexR_ok (s : Str) : ∀ (c n a : Nat), a ≤ s.length → (n + 1) * 16 ^ c ≤ 16777216 → (hexR s c n a).1 < 16777216 ∧ a ≤ (hexR s c n a).2 ∧ (hexR s c n a).2 ≤ s.length
  | 0, n, a, ha, hn => by
    rw [Nat.pow_zero, Nat.mul_one] at hn
    exact ⟨by show n < _; omega, Nat.le_refl _, ha⟩
  | c + 1, n, a, ha, hn => by
    unfold hexR
    have hp : 0 < 16 ^ (c + 1) := Nat.pow_pos (by decide)
    split
    · have := Nat.le_mul_of_pos_right (n + 1) hp
      exact ⟨by show n < _; omega, Nat.le_refl _, ha⟩
    · rename_i h
      have hlt : a < s.length := by
        rcases Nat.lt_or_ge a s.length with h1 | h1
        · exact h1
        · rw [hex_end h1] at h; omega
      have hb := hex_bd s a
      have h2 : (16 * n + (hexI s a).toNat + 1) * 16 ^ c ≤ 16777216 := by
        rw [Nat.pow_succ, Nat.mul_comm (16 ^ c) 16, ← Nat.mul_assoc] at hn
        exact Nat.le_trans (Nat.mul_le_mul_right _ (by omega)) hn
      have := hexR_ok s c _ (a + 1) hlt h2
      exact ⟨this.1, by omega, this.2.2⟩
theorem hexL_t (m : Nat) (s : Str) (hs : s.length < 100000) : ∀ (c kk n a : Nat), c ≤ 6 → c < kk → a ≤ s.length → (n + 1) * 16 ^ c ≤ 16777216 →
    token_scanner_escaped_L1 m s kk (n : Int) ((6 - c : Nat) : Int) (a : Int) = some (((hexR s c n a).1 : Int), ((hexR s c n a).2 : Int))
  | 0, kk, n, a, hc, hk, ha, hn => by
    obtain ⟨k, rfl⟩ : ∃ k, kk = k + 1 := ⟨kk - 1, by omega⟩
    rw [token_scanner_escaped_L1]
    rfl
  | c + 1, kk, n, a, hc, hk, ha, hn => by
    obtain ⟨k, rfl⟩ : ∃ k, kk = k + 1 := ⟨kk - 1, by omega⟩
    have hpk := peek_nat s a 0 (by omega)
    rw [show ((0 : Nat) : Int) = 0 from rfl, Nat.add_zero] at hpk
    have hb := hex_bd s a
    have hp : 0 < 16 ^ (c + 1) := Nat.pow_pos (by decide)
    have hnn := Nat.le_mul_of_pos_right (n + 1) hp
    rw [token_scanner_escaped_L1, decide_eq_true (show ((6 - (c + 1) : Nat) : Int) < 6 by omega), cond_true, hpk, Option.bind_some, show token_hex (pk s a (-1)) = hexI s a from rfl, hexR]
    by_cases h : hexI s a < 0
    · rw [decide_eq_true h, if_pos h, cond_true]
    · have hlt : a < s.length := by
        rcases Nat.lt_or_ge a s.length with h1 | h1
        · exact h1
        · rw [hex_end h1] at h; omega
      rw [decide_eq_false h, if_neg h, cond_false, lt_eq]
      have e1 : w64 ((n : Int) * 2 ^ 4) = ((2 ^ 4 * n : Nat) : Int) := by rw [w64_id (by omega) (by omega)]; omega
      have e2 : hexI s a = (((hexI s a).toNat : Nat) : Int) := by omega
      have e3 : w64 (((6 - (c + 1) : Nat) : Int) + 1) = ((6 - c : Nat) : Int) := by rw [w64_id (by omega) (by omega)]; omega
      have h2 : (16 * n + (hexI s a).toNat + 1) * 16 ^ c ≤ 16777216 := by
        rw [Nat.pow_succ, Nat.mul_comm (16 ^ c) 16, ← Nat.mul_assoc] at hn
        exact Nat.le_trans (Nat.mul_le_mul_right _ (by omega)) hn
      rw [e1]
      conv => lhs; rw [e2]
      rw [ibit_or64 n (hexI s a).toNat 4 (by omega) (by omega), e3, w64_ix (by omega)]
      have := hexL_t m s hs c k (16 * n + (hexI s a).toNat) (a + 1) (by omega) (by omega) hlt h2
      exact this
theorem hexL_r (m : Nat) (s : Str) (i : Nat) (hs : s.length < 100000) : ∀ (c kk n a : Nat), c ≤ 6 → c < kk → a ≤ s.length → a + c = i + 7 → (n + 1) * 16 ^ c ≤ 16777216 →
    r02_Escaped_L1 m s (i : Int) kk (n : Int) (a : Int) = some (((hexR s c n a).1 : Int), ((hexR s c n a).2 : Int)) := by
  have e0 : ∀ a : Nat, i < 1000000 → w64 (w64 ((i : Int) + 1) + 6) = ((i + 7 : Nat) : Int) := fun a hi => by rw [w64_ix (by omega), w64_id (by omega) (by omega)]; omega
  intro c
  induction c with
  | zero =>
    intro kk n a hc hk ha hac hn
    obtain ⟨k, rfl⟩ : ∃ k, kk = k + 1 := ⟨kk - 1, by omega⟩
    rw [r02_Escaped_L1, e0 a (by omega), decide_eq_false (show ¬ (a : Int) < ((i + 7 : Nat) : Int) by omega), lt_eq]
    have : (cond (decide ((a : Int) < ln s)) false false) = false := by cases decide ((a : Int) < ln s) <;> rfl
    rw [this, chk_pos (fun h => by cases h), lt_eq, cond_false, cond_false]
    rfl
  | succ c ih =>
    intro kk n a hc hk ha hac hn
    obtain ⟨k, rfl⟩ : ∃ k, kk = k + 1 := ⟨kk - 1, by omega⟩
    have hb := hex_bd s a
    rw [r02_Escaped_L1, e0 a (by omega), decide_eq_true (show (a : Int) < ((i + 7 : Nat) : Int) by omega), lt_eq, hexR]
    by_cases hlt : a < s.length
    · rw [lt_dec hlt, cond_true, chk_pos (fun _ => ⟨by omega, by unfold ln; omega⟩), lt_eq, cond_true, hex_r hlt]
      by_cases h : hexI s a < 0
      · rw [decide_eq_false (show ¬ 0 ≤ hexI s a by omega), if_pos h, cond_false]
      · have h2 : (16 * n + (hexI s a).toNat + 1) * 16 ^ c ≤ 16777216 := by
          rw [Nat.pow_succ, Nat.mul_comm (16 ^ c) 16, ← Nat.mul_assoc] at hn
          exact Nat.le_trans (Nat.mul_le_mul_right _ (by omega)) hn
        have hp : 0 < 16 ^ (c + 1) := Nat.pow_pos (by decide)
        have hnn := Nat.le_mul_of_pos_right (n + 1) hp
        rw [decide_eq_true (show 0 ≤ hexI s a by omega), if_neg h, cond_true, chk_ix hlt, lt_eq, w64_id (x := 16 * (n : Int)) (by omega) (by omega), w64_id (x := 16 * (n : Int) + hexI s a) (by omega) (by omega), w64_ix (by omega)]
        have := ih k (16 * n + (hexI s a).toNat) (a + 1) (by omega) (by omega) hlt (by omega) h2
        rw [← this]
        congr 1
        omega
    · rw [ge_dec (by omega), cond_false, chk_pos (fun h => by cases h), lt_eq, cond_false, cond_false, if_pos (by rw [hex_end (by omega)]; omega)]
/-! ## Escapes -/
theorem sub_byte {s : Str} {i : Nat} (h : i < s.length) : sub s (i : Int) ((i + 1 : Nat) : Int) = [s[i]] := by
  unfold sub
  rw [Int.toNat_natCast, Int.toNat_natCast, show i + 1 - i = 1 from by omega, drop_get h]
  rfl
theorem pk_at {s : Str} {i : Nat} (h : i < s.length) (d : Int) : pk s i d = (s[i].toNat : Int) := by
  unfold pk
  rw [List.getElem?_eq_getElem h]
theorem escaped_eq (m : Nat) (s : Str) (i : Nat) (b : Str) (hs : s.length < 100000) (hm : 10 < m) (hi : i < s.length) (hb : b.length < 10000000) :
    ∃ (E : Str) (j : Nat), token_scanner_escaped m s (i : Int) (ofB b) = some (ofB (b ++ E), (j : Int)) ∧ r02_Escaped m s (i : Int) = some (E, (j : Int)) ∧ i < j ∧ j ≤ s.length ∧ E.length ≤ 4 ∧ E ≠ [] := by
  unfold token_scanner_escaped r02_Escaped
  have hpk := peek_nat s (i + 1) 0 (by omega)
  rw [show ((0 : Nat) : Int) = 0 from rfl, Nat.add_zero] at hpk
  rw [w64_ix (by omega), hpk, Option.bind_some]
  by_cases h1 : i + 1 < s.length
  · have hpa := pk_at h1 (-1)
    have hbl := (s[i + 1]).toNat_lt
    rw [show (pk s (i + 1) (-1) == (-1)) = false from beq_eq_false_iff_ne.2 (by rw [hpa]; omega), cond_false]
    rw [show decide (ln s ≤ ((i + 1 : Nat) : Int)) = false from decide_eq_false (by unfold ln; omega), cond_false, chk_ix h1, lt_eq, hex_r h1, show token_hex (pk s (i + 1) (-1)) = hexI s (i + 1) from rfl]
    by_cases h2 : hexI s (i + 1) < 0
    · rw [decide_eq_true h2, cond_true, lt_eq, cond_true, w64_ix (i := i + 1) (by omega), hpa, wu8_id (by omega) (by omega), chk_pos (by unfold ln; rw [ofB_len]; simp only [List.length_cons, List.length_nil]; omega), lt_eq,
        chk_pos (by unfold ln; omega), sub_byte h1]
      refine ⟨[s[i + 1]], i + 2, ?_, rfl, by omega, by omega, by simp, by simp⟩
      rw [ofB_app]
      rfl
    · rw [decide_eq_false h2, cond_false, lt_eq, cond_false]
      have hb16 : (0 + 1) * 16 ^ 6 ≤ 16777216 := by decide
      have l1 := hexL_t m s hs 6 m 0 (i + 1) (by decide) (by omega) (by omega) hb16
      have l2 := hexL_r m s i hs 6 m 0 (i + 1) (by decide) (by omega) (by omega) (by omega) hb16
      have hok := hexR_ok s 6 0 (i + 1) (by omega) hb16
      rw [show ((6 - 6 : Nat) : Int) = 0 from rfl] at l1
      rw [show ((0 : Nat) : Int) = 0 from rfl] at l2
      rw [l1, l2]
      generalize hexR s 6 0 (i + 1) = R at hok
      obtain ⟨n, a⟩ := R
      obtain ⟨hn, ha1, ha2⟩ := hok
      dsimp only at hn ha1 ha2 ⊢
      simp only [Option.bind_some]
      have hpa2 := peek_nat s a 0 (by omega)
      rw [show ((0 : Nat) : Int) = 0 from rfl, Nat.add_zero] at hpa2
      rw [hpa2, at_nat]
      simp only [Option.bind_some]
      rw [space_t, space_r, w64_ix (by omega)]
      have hz : (cond ((n : Int) == 0) (some (65533 : Int)) (some (n : Int))) = some ((rune0 n : Nat) : Int) := by
        unfold rune0
        by_cases hn0 : n = 0
        · rw [if_pos hn0, hn0]; rfl
        · rw [if_neg hn0, show ((n : Int) == 0) = false from beq_eq_false_iff_ne.2 (by omega), cond_false]
      rw [hz]
      have hr0 : rune0 n < 16777216 := by unfold rune0; split <;> omega
      have hrun : unicode_utf8_AppendRune (ofB b) (w32 ((rune0 n : Nat) : Int)) = some (ofB (b ++ toB (runeI (rune0 n)))) := by
        rw [w32_id (by omega) (by omega), rune_t _ _ hr0 (by rw [ofB_len]; omega), ofB_app, ofB_toB _ (rune_bd _)]
      have hrl := rune_len (rune0 n)
      have hlB : (toB (runeI (rune0 n))).length = (runeI (rune0 n)).length := List.length_map ..
      have hne : toB (runeI (rune0 n)) ≠ [] := by intro e; rw [e] at hlB; simp at hlB; omega
      rw [rune_r n hn]
      cases ht : tst spc1 s a
      · simp only [cond_false, Option.bind_some]
        rw [hrun]
        exact ⟨_, a, rfl, rfl, by omega, ha2, by omega, hne⟩
      · have hlt := tst_lt ht
        simp only [cond_true, Option.bind_some]
        rw [hrun]
        exact ⟨_, a + 1, rfl, rfl, by omega, hlt, by omega, hne⟩
  · have he : i + 1 = s.length := by omega
    have hpe : pk s (i + 1) (-1) = -1 := by unfold pk; rw [List.getElem?_eq_none (by omega)]
    rw [hpe, show ((-1 : Int) == (-1)) = true from rfl, cond_true, show decide (ln s ≤ ((i + 1 : Nat) : Int)) = true from decide_eq_true (by unfold ln; omega), cond_true]
    have h3 := rune_t (ofB b) 65533 (by decide) (by rw [ofB_len]; omega)
    rw [show ((65533 : Nat) : Int) = 65533 from rfl] at h3
    rw [h3]
    refine ⟨r02_lost, i + 1, ?_, rfl, by omega, by omega, by decide, by decide⟩
    rw [ofB_app]
    rfl
/-! ## Names, letter by letter -/
theorem word_eq (m : Nat) (s : Str) (hs : s.length < 100000) (hm : 10 < m) : ∀ (kk i : Nat) (v : Str), s.length - i < kk → i ≤ s.length → v.length ≤ 4 * i →
    ∃ (w : Str) (j : Nat), token_scanner_word_L1 m s kk (ofB v) (i : Int) = some (w, (j : Int)) ∧ r02_Named_L1 m s kk (i : Int) v = some (w, (j : Int)) ∧ i ≤ j ∧ j ≤ s.length ∧ w.length ≤ 4 * j := by
  intro kk
  induction kk with
  | zero => intro i v h; omega
  | succ kk ih =>
    intro i v hk hi hv
    have hpk := peek_nat s i 0 (by omega)
    rw [show ((0 : Nat) : Int) = 0 from rfl, Nat.add_zero] at hpk
    have hesc := esc_t s i 0 (by omega)
    rw [show ((0 : Nat) : Int) = 0 from rfl, Nat.add_zero] at hesc
    rw [token_scanner_word_L1, r02_Named_L1, hpk, Option.bind_some, letter_t, hesc, esc_r s i (by omega)]
    by_cases hlt : i < s.length
    · have hbt : r02_Letter (bat s (i : Int)) = tst let1 s i := by rw [bat_pk s i 0 hlt, letter_r]
      have hpa := pk_at hlt (-1)
      have hbl := (s[i]).toNat_lt
      rw [lt_dec hlt, chk_pos (fun _ => ⟨by omega, by unfold ln; omega⟩), lt_eq, cond_true, hbt]
      cases hl : tst let1 s i
      · rw [cond_false, lt_eq, cond_false, show (pk s i (-1) != (-1)) = true from by rw [hpa]; exact bne_iff_ne.2 (by omega)]
        simp only [cond_true, Option.bind_some]
        cases he : esc s i
        · exact ⟨v, i, by rw [cond_false, toB_ofB], by rw [cond_false], Nat.le_refl _, hi, hv⟩
        · obtain ⟨E, j, e1, e2, e3, e4, e5, e6⟩ := escaped_eq m s i v hs hm hlt (by omega)
          rw [cond_true, cond_true, e1, e2, Option.bind_some, Option.bind_some]
          dsimp only
          rw [chk_pos (by unfold ln; omega)]
          obtain ⟨w, j', f1, f2, f3, f4, f5⟩ := ih j (v ++ E) (by omega) e4 (by rw [List.length_append]; omega)
          exact ⟨w, j', f1, f2, by omega, f4, f5⟩
      · rw [cond_true, lt_eq, cond_true, hpa, wu8_id (by omega) (by omega), w64_ix (by omega), chk_pos (by unfold ln; rw [ofB_len]; simp only [List.length_cons, List.length_nil]; omega),
          chk_pos (by unfold ln; omega), sub_byte hlt, chk_pos (by unfold ln; simp only [List.length_cons, List.length_nil]; omega)]
        obtain ⟨w, j', f1, f2, f3, f4, f5⟩ := ih (i + 1) (v ++ [s[i]]) (by omega) hlt (by rw [List.length_append, List.length_cons, List.length_nil]; omega)
        refine ⟨w, j', ?_, f2, by omega, f4, f5⟩
        rw [← f1, ofB_app]
        rfl
    · have hpe : pk s i (-1) = -1 := by unfold pk; rw [List.getElem?_eq_none (by omega)]
      have hl : tst let1 s i = false := by unfold tst; rw [List.getElem?_eq_none (by omega)]
      rw [ge_dec (by omega), chk_pos (fun h => by cases h), lt_eq, cond_false, hl, cond_false, hpe, show ((-1 : Int) != (-1)) = false from rfl]
      exact ⟨v, i, by simp only [cond_false, Option.bind_some, toB_ofB], by simp only [lt_eq, cond_false, Option.bind_some], Nat.le_refl _, hi, hv⟩
end Go.Proofs.YtfancfogkhclfaaGreatDoor

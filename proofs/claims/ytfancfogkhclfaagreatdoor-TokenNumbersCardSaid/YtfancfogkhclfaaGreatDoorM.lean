/-
  What the Go functions compute, as Lean functions, and that a call returns just that. Printed by a program.
-/
import Derived.Test.YtfancfogkhclfaaGreatDoorRows
import Derived.Test.YtfancfogkhclfaaGreatDoorCL
import Derived.Test.YtfancfogkhclfaaGreatDoorX
set_option linter.unusedVariables false
set_option maxRecDepth 20000
set_option maxHeartbeats 4000000
namespace Go.Proofs.YtfancfogkhclfaaGreatDoor
open Go.V Go.RowKit
structure TToken where
  Kind : Int
  Text : Str
  Num : Int
  Unit : Str
  Flag : Bool
instance : Inhabited TToken := ⟨⟨default, default, default, default, default⟩⟩
def stringslite_HasPrefix (s : Str) (prefix_ : Str) : Option (Bool) :=
  chk ((decide ((ln prefix_) ≤ (ln s))) = true → 0 ≤ (ln prefix_) ∧ (ln prefix_) ≤ ln s) <|
  lt (cond (decide ((ln prefix_) ≤ (ln s))) ((sub s 0 (ln prefix_)) == prefix_) false) fun x4 =>
  some x4
def strings_HasPrefix (s : Str) (prefix_ : Str) : Option (Bool) :=
  Option.bind (stringslite_HasPrefix s prefix_) fun y3 =>
  some y3
def x_strings_Index (x0 : Str) (x1 : Str) : Option Int := chk (x0.length < 4294967281) (some (Lib.index x0 x1))
def token_scanner_comments_L1 (m : Nat) (c_s : Str) : Nat → Int → Option (Int)
  | 0, _ => none
  | kk + 1, v1 =>
    chk (0 ≤ v1 ∧ v1 ≤ ln c_s) <|
    Option.bind (strings_HasPrefix (sub c_s v1 (ln c_s)) [47, 42]) fun y3 =>
    cond y3 (
    chk (0 ≤ (w64 (v1 + 2)) ∧ (w64 (v1 + 2)) ≤ ln c_s) <|
    Option.bind (x_strings_Index (sub c_s (w64 (v1 + 2)) (ln c_s)) [42, 47]) fun y7 =>
    cond (decide (y7 < 0)) (
    some (ln c_s)) (
    token_scanner_comments_L1 m c_s kk (w64 (v1 + (w64 (y7 + 4)))))) (
    some v1)
def token_scanner_comments (m : Nat) (c_s : Str) (c_at_ : Int) : Option (Int) :=
  token_scanner_comments_L1 m c_s m c_at_
def token_scanner_peek (c_s : Str) (c_at_ : Int) (n_ : Int) : Option (Int) :=
  cond (decide ((w64 (c_at_ + n_)) < (ln c_s))) (
  chk (0 ≤ (w64 (c_at_ + n_)) ∧ (w64 (c_at_ + n_)) < ln c_s) <|
  some (w64 (bat c_s (w64 (c_at_ + n_))))) (
  some (-1))
def token_space (b_ : Int) : Bool :=
  lt (cond (cond (b_ == 32) true (b_ == 9)) true (b_ == 10)) fun x3 =>
  x3
def token_scanner_while_L1 (m : Nat) (c_s : Str) : Nat → Int → Option (Int)
  | 0, _ => none
  | kk + 1, v1 =>
    Option.bind (token_scanner_peek c_s v1 0) fun y2 =>
    cond (token_space y2) (
    token_scanner_while_L1 m c_s kk (w64 (v1 + 1))) (
    some v1)
def token_scanner_while (m : Nat) (c_s : Str) (c_at_ : Int) : Option (Int) :=
  token_scanner_while_L1 m c_s m c_at_
def unicode_utf8_appendRuneNonASCII (p : List Int) (r_ : Int) : Option (List Int) :=
  cond (decide ((wu32 r_) ≤ 2047)) (
  lt (ibit .or .u8 192 (wu8 (Int.fdiv r_ (2 ^ 6)))) fun x7 =>
  lt (ibit .or .u8 128 (ibit .and .u8 (wu8 r_) 63)) fun x8 =>
  chk (ln p + ln ([x7, x8] : List Int) ≤ 1099511627776) <|
  lt (p ++ ([x7, x8] : List Int)) fun q16 =>
  some q16) (
  Option.bind (
  cond (decide ((wu32 r_) < 55296)) (
  some (decide ((wu32 r_) < 55296))) (
  lt (cond (decide (57343 < (wu32 r_))) (decide ((wu32 r_) ≤ 65535)) false) fun x25 =>
  some x25)) fun (z22 : Bool) =>
  cond z22 (
  lt (ibit .or .u8 224 (wu8 (Int.fdiv r_ (2 ^ 12)))) fun x29 =>
  lt (ibit .and .u8 (wu8 (Int.fdiv r_ (2 ^ 6))) 63) fun x30 =>
  lt (ibit .or .u8 128 (ibit .and .u8 (wu8 r_) 63)) fun x31 =>
  chk (ln p + ln ([x29, ibit .or .u8 128 x30, x31] : List Int) ≤ 1099511627776) <|
  lt (p ++ ([x29, ibit .or .u8 128 x30, x31] : List Int)) fun q39 =>
  some q39) (
  lt (cond (decide (65535 < (wu32 r_))) (decide ((wu32 r_) ≤ 1114111)) false) fun x45 =>
  cond x45 (
  lt (ibit .or .u8 240 (wu8 (Int.fdiv r_ (2 ^ 18)))) fun x48 =>
  lt (ibit .and .u8 (wu8 (Int.fdiv r_ (2 ^ 12))) 63) fun x49 =>
  lt (ibit .and .u8 (wu8 (Int.fdiv r_ (2 ^ 6))) 63) fun x50 =>
  lt (ibit .or .u8 128 (ibit .and .u8 (wu8 r_) 63)) fun x51 =>
  chk (ln p + ln ([x48, ibit .or .u8 128 x49, ibit .or .u8 128 x50, x51] : List Int) ≤ 1099511627776) <|
  lt (p ++ ([x48, ibit .or .u8 128 x49, ibit .or .u8 128 x50, x51] : List Int)) fun q59 =>
  some q59) (
  chk (ln p + ln ([239, 191, 189] : List Int) ≤ 1099511627776) <|
  lt (p ++ ([239, 191, 189] : List Int)) fun q72 =>
  some q72)))
def unicode_utf8_AppendRune (p : List Int) (r_ : Int) : Option (List Int) :=
  cond (decide ((wu32 r_) ≤ 127)) (
  chk (ln p + ln ([wu8 r_] : List Int) ≤ 1099511627776) <|
  lt (p ++ ([wu8 r_] : List Int)) fun q12 =>
  some q12) (
  Option.bind (unicode_utf8_appendRuneNonASCII p r_) fun y20 =>
  some y20)
def token_within (b_ : Int) (from_ : Int) (to : Int) : Bool :=
  lt (cond (decide (from_ ≤ b_)) (decide (b_ ≤ to)) false) fun x3 =>
  x3
def token_digit (b_ : Int) : Bool :=
  (token_within b_ 48 57)
def token_hex (b_ : Int) : Int :=
  cond (token_digit b_) (
  w64 (b_ - 48)) (
  lt (token_within (ibit .or .i64 b_ 32) 97 102) fun y7 =>
  lt (cond (cond (b_ != (-1)) y7 false) (decide (64 < b_)) false) fun x8 =>
  cond (cond x8 (decide (b_ < 128)) false) (
  lt (w64 ((w64 ((ibit .or .i64 b_ 32) - 97)) + 10)) fun x11 =>
  x11) (
  (-1)))
def token_scanner_escaped_L1 (m : Nat) (c_s : Str) : Nat → Int → Int → Int → Option (Int × Int)
  | 0, _, _, _ => none
  | kk + 1, v45, v46, v47 =>
    cond (decide (v46 < 6)) (
    Option.bind (token_scanner_peek c_s v47 0) fun y50 =>
    cond (decide ((token_hex y50) < 0)) (
    some (v45, v47)) (
    lt (ibit .or .i64 (w64 (v45 * 2 ^ 4)) (token_hex y50)) fun x56 =>
    token_scanner_escaped_L1 m c_s kk x56 (w64 (v46 + 1)) (w64 (v47 + 1)))) (
    some (v45, v47))
def token_scanner_escaped (m : Nat) (c_s : Str) (c_at_ : Int) (b_ : List Int) : Option ((List Int) × Int) :=
  Option.bind (token_scanner_peek c_s (w64 (c_at_ + 1)) 0) fun y7 =>
  cond (y7 == (-1)) (
  Option.bind (unicode_utf8_AppendRune b_ 65533) fun y14 =>
  some (y14, w64 (c_at_ + 1))) (
  cond (decide ((token_hex y7) < 0)) (
  chk (ln b_ + ln ([wu8 y7] : List Int) ≤ 1099511627776) <|
  lt (b_ ++ ([wu8 y7] : List Int)) fun q34 =>
  some (q34, w64 ((w64 (c_at_ + 1)) + 1))) (
  Option.bind (
  token_scanner_escaped_L1 m c_s m 0 0 (w64 (c_at_ + 1))) fun (z42 : Int × Int) =>
  Option.bind (
  Option.bind (token_scanner_peek c_s z42.2 0) fun y66 =>
  cond (token_space y66) (
  some (w64 (z42.2 + 1))) (
  some z42.2)) fun (z65 : Int) =>
  Option.bind (
  cond (z42.1 == 0) (
  some 65533) (
  some z42.1)) fun (z74 : Int) =>
  Option.bind (unicode_utf8_AppendRune b_ (w32 z74)) fun y82 =>
  some (y82, z65)))
def token_scanner_quoted_L1 (m : Nat) (c_s : Str) (y4 : Int) : Nat → (List Int) → Int → Option (Sum (TToken × Int) ((List Int) × Int))
  | 0, _, _ => none
  | kk + 1, v15, v17 =>
    Option.bind (token_scanner_peek c_s v17 0) fun y18 =>
    cond (y18 == (-1)) (
    some (.inr (v15, v17))) (
    cond (y18 == y4) (
    some (.inr (v15, w64 (v17 + 1)))) (
    cond (y18 == 10) (
    some (.inl ((TToken.mk 6 [] 0 [] false), v17))) (
    Option.bind (cond (y18 == 92) (token_scanner_peek c_s v17 1) (some default)) fun y35 =>
    Option.bind (cond (y18 == 92) (cond (y35 == (-1)) (some default) (token_scanner_peek c_s v17 1)) (some default)) fun y36 =>
    lt (cond (y18 == 92) (cond (y35 == (-1)) true (y36 == 10)) false) fun x37 =>
    cond x37 (
    lt (if ln c_s < w64 (v17 + 2) then ln c_s else w64 (v17 + 2)) fun x41 =>
    token_scanner_quoted_L1 m c_s y4 kk v15 x41) (
    cond (y18 == 92) (
    Option.bind (token_scanner_escaped m c_s v17 v15) fun y49 =>
    token_scanner_quoted_L1 m c_s y4 kk y49.1 y49.2) (
    chk (ln v15 + ln ([wu8 y18] : List Int) ≤ 1099511627776) <|
    lt (v15 ++ ([wu8 y18] : List Int)) fun q63 =>
    token_scanner_quoted_L1 m c_s y4 kk q63 (w64 (v17 + 1)))))))
def token_scanner_quoted (m : Nat) (c_s : Str) (c_at_ : Int) : Option (TToken × Int) :=
  Option.bind (token_scanner_peek c_s c_at_ 0) fun y4 =>
  Option.bind (
  token_scanner_quoted_L1 m c_s y4 m ([] : List Int) (w64 (c_at_ + 1))) fun (z13 : Sum (TToken × Int) ((List Int) × Int)) => sumK z13 fun s_z13 =>
  some ((TToken.mk 5 (toB s_z13.1) 0 [] false), s_z13.2)
def token_first (b_ : Int) : Bool :=
  lt (token_within (ibit .or .i64 b_ 32) 97 122) fun y3 =>
  lt (cond (cond y3 (decide (b_ < 128)) false) (decide (64 < b_)) false) fun x4 =>
  lt (cond (cond x4 true (b_ == 95)) true (decide (128 ≤ b_))) fun x5 =>
  x5
def token_letter (b_ : Int) : Bool :=
  lt (cond (token_first b_) true (token_digit b_)) fun x3 =>
  cond x3 true (b_ == 45)
def token_scanner_escape (c_s : Str) (c_at_ : Int) (n_ : Int) : Option (Bool) :=
  Option.bind (token_scanner_peek c_s c_at_ n_) fun y3 =>
  Option.bind (cond (y3 == 92) (token_scanner_peek c_s c_at_ (w64 (n_ + 1))) (some default)) fun y4 =>
  some (cond (y3 == 92) (y4 != 10) false)
def token_scanner_name (c_s : Str) (c_at_ : Int) (n_ : Int) : Option (Bool) :=
  Option.bind (token_scanner_peek c_s c_at_ n_) fun y3 =>
  cond (y3 != 45) (
  Option.bind (token_scanner_peek c_s c_at_ n_) fun y6 =>
  Option.bind (cond (token_first y6) (some default) (token_scanner_escape c_s c_at_ n_)) fun y7 =>
  some (cond (token_first y6) true y7)) (
  Option.bind (token_scanner_peek c_s c_at_ (w64 (n_ + 1))) fun y10 =>
  Option.bind (cond (token_first y10) (some default) (token_scanner_peek c_s c_at_ (w64 (n_ + 1)))) fun y11 =>
  Option.bind (cond (cond (token_first y10) true (y11 == 45)) (some default) (token_scanner_escape c_s c_at_ (w64 (n_ + 1)))) fun y12 =>
  lt (cond (cond (token_first y10) true (y11 == 45)) true y12) fun x13 =>
  some x13)
def token_scanner_word_L1 (m : Nat) (c_s : Str) : Nat → (List Int) → Int → Option (Str × Int)
  | 0, _, _ => none
  | kk + 1, v6, v8 =>
    Option.bind (token_scanner_peek c_s v8 0) fun y9 =>
    cond (token_letter y9) (
    chk (ln v6 + ln ([wu8 y9] : List Int) ≤ 1099511627776) <|
    lt (v6 ++ ([wu8 y9] : List Int)) fun q21 =>
    token_scanner_word_L1 m c_s kk q21 (w64 (v8 + 1))) (
    Option.bind (cond (y9 != (-1)) (token_scanner_escape c_s v8 0) (some default)) fun y31 =>
    cond (cond (y9 != (-1)) y31 false) (
    Option.bind (token_scanner_escaped m c_s v8 v6) fun y36 =>
    token_scanner_word_L1 m c_s kk y36.1 y36.2) (
    some (toB v6, v8)))
def token_scanner_word (m : Nat) (c_s : Str) (c_at_ : Int) : Option (Str × Int) :=
  token_scanner_word_L1 m c_s m ([] : List Int) c_at_
def token_scanner_number (c_s : Str) (c_at_ : Int) : Option (Bool) :=
  Option.bind (
  Option.bind (token_scanner_peek c_s c_at_ 0) fun y6 =>
  cond (cond (y6 == 43) true (y6 == 45)) (
  some 1) (
  some 0)) fun (z5 : Int) =>
  Option.bind (
  Option.bind (token_scanner_peek c_s c_at_ z5) fun y15 =>
  cond (y15 == 46) (
  some (w64 (z5 + 1))) (
  some z5)) fun (z14 : Int) =>
  Option.bind (token_scanner_peek c_s c_at_ z14) fun y21 =>
  some (token_digit y21)
def token_scanner_while_2_L1 (m : Nat) (c_s : Str) : Nat → Int → Option (Int)
  | 0, _ => none
  | kk + 1, v1 =>
    Option.bind (token_scanner_peek c_s v1 0) fun y2 =>
    cond (token_digit y2) (
    token_scanner_while_2_L1 m c_s kk (w64 (v1 + 1))) (
    some v1)
def token_scanner_while_2 (m : Nat) (c_s : Str) (c_at_ : Int) : Option (Int) :=
  token_scanner_while_2_L1 m c_s m c_at_
def token_scanner_figures (m : Nat) (c_s : Str) (c_at_ : Int) : Option (Bool × Int) :=
  Option.bind (
  Option.bind (token_scanner_peek c_s c_at_ 0) fun y4 =>
  cond (cond (y4 == 43) true (y4 == 45)) (
  some (w64 (c_at_ + 1))) (
  some c_at_)) fun (z3 : Int) =>
  Option.bind (token_scanner_while_2 m c_s z3) fun y16 =>
  Option.bind (
  Option.bind (token_scanner_peek c_s y16 0) fun y22 =>
  Option.bind (cond (y22 == 46) (token_scanner_peek c_s y16 1) (some default)) fun y23 =>
  cond (cond (y22 == 46) (token_digit y23) false) (
  Option.bind (token_scanner_while_2 m c_s (w64 (y16 + 1))) fun y32 =>
  some (false, y32)) (
  some (true, y16))) fun (z21 : Bool × Int) =>
  Option.bind (
  Option.bind (token_scanner_peek c_s z21.2 0) fun y39 =>
  Option.bind (cond (y39 == 101) (some default) (token_scanner_peek c_s z21.2 0)) fun y40 =>
  cond (cond (y39 == 101) true (y40 == 69)) (
  Option.bind (
  Option.bind (token_scanner_peek c_s z21.2 1) fun y46 =>
  cond (cond (y46 == 43) true (y46 == 45)) (
  some 2) (
  some 1)) fun (z45 : Int) =>
  Option.bind (token_scanner_peek c_s z21.2 z45) fun y54 =>
  cond (token_digit y54) (
  Option.bind (token_scanner_while_2 m c_s (w64 (z21.2 + z45))) fun y63 =>
  some (false, y63)) (
  some (z21.1, z21.2))) (
  some (z21.1, z21.2))) fun (z38 : Bool × Int) =>
  some (z38.1, z38.2)
def x_strings_TrimLeft (x0 : Str) (x1 : Str) : Option Str := chk (ascB x1 = true ∧ x1.length < 4294967281) (some (Lib.trimLeftS x0 x1))
def x_strings_IndexAny (x0 : Str) (x1 : Str) : Option Int := chk (ascB x0 = true ∧ ascB x1 = true ∧ x0.length < 4294967281 ∧ x1.length < 4294967281) (some (Lib.indexAny x0 x1))
def stringslite_IndexByte (s : Str) (c_ : Int) : Int :=
  (nIndexByte s c_)
def stringslite_Index (s : Str) (substr : Str) : Option (Int) :=
  lt (cond ((ln substr) == 0) true (substr == s)) fun x5 =>
  cond x5 (
  some 0) (
  cond ((ln substr) == 1) (
  chk (0 ≤ (0 : Int) ∧ (0 : Int) < ln substr) <|
  some (stringslite_IndexByte s (bat substr 0))) (
  cond (decide ((ln s) ≤ (ln substr))) (
  some (-1)) (
  none)))
def stringslite_Cut (s : Str) (sep : Str) : Option (Str × Str × Bool) :=
  Option.bind (stringslite_Index s sep) fun y3 =>
  cond (decide (0 ≤ y3)) (
  chk (0 ≤ y3 ∧ y3 ≤ ln s) <|
  chk (0 ≤ (w64 (y3 + (ln sep))) ∧ (w64 (y3 + (ln sep))) ≤ ln s) <|
  some (sub s 0 y3, sub s (w64 (y3 + (ln sep))) (ln s), true)) (
  some (s, [], false))
def strings_Cut (s : Str) (sep : Str) : Option (Str × Str × Bool) :=
  Option.bind (stringslite_Cut s sep) fun y3 =>
  some (y3.1, y3.2.1, y3.2.2)
def token_thousandths_L1 (m : Nat) (y21 : Str) : Nat → Int → Int → Option (Int)
  | 0, _, _ => none
  | kk + 1, v30, v31 =>
    cond (decide (v31 < (ln (ofB y21)))) (
    chk (0 ≤ v31 ∧ v31 < ln (ofB y21)) <|
    lt (w64 ((w64 (10 * v30)) + (w64 (wu8 ((gi (ofB y21) v31) - 48))))) fun x37 =>
    token_thousandths_L1 m y21 kk (if 1048576 < x37 then 1048576 else x37) (w64 (v31 + 1))) (
    some v30)
def token_thousandths_L2 (m : Nat) (z65 : Str) : Nat → Int → Int → Option (Int)
  | 0, _, _ => none
  | kk + 1, v86, v87 =>
    cond (decide (v87 < (ln (ofB z65)))) (
    chk (0 ≤ v87 ∧ v87 < ln (ofB z65)) <|
    lt (w64 ((w64 (10 * v86)) + (w64 (wu8 ((gi (ofB z65) v87) - 48))))) fun x93 =>
    lt (if 1000000000000 < x93 then 1000000000000 else x93) fun x94 =>
    token_thousandths_L2 m z65 kk x94 (w64 (v87 + 1))) (
    some v86)
def token_thousandths_L3 (m : Nat)  : Nat → Int → Int → Option (Int)
  | 0, _, _ => none
  | kk + 1, v102, v103 =>
    lt (cond (decide (0 < v102)) (decide (0 < v103)) false) fun x104 =>
    lt (cond x104 (decide (v103 < 1000000000000)) false) fun x105 =>
    cond x105 (
    lt (if 1000000000000 < w64 (10 * v103) then 1000000000000 else w64 (10 * v103)) fun x108 =>
    token_thousandths_L3 m  kk (w64 (v102 - 1)) x108) (
    some v103)
def token_thousandths (m : Nat) (s : Str) : Option (Int) :=
  chk (0 ≤ (0 : Int) ∧ (0 : Int) < ln s) <|
  Option.bind (x_strings_TrimLeft s [43, 45]) fun y6 =>
  Option.bind (
  Option.bind (x_strings_IndexAny y6 [101, 69]) fun y12 =>
  cond (decide (0 ≤ y12)) (
  Option.bind (
  chk (0 ≤ (w64 (y12 + 1)) ∧ (w64 (y12 + 1)) ≤ ln y6) <|
  Option.bind (x_strings_TrimLeft (sub y6 (w64 (y12 + 1)) (ln y6)) [43, 45]) fun y21 =>
  token_thousandths_L1 m y21 m 0 0) fun (z19 : Int) =>
  Option.bind (
  chk (0 ≤ (w64 (y12 + 1)) ∧ (w64 (y12 + 1)) < ln y6) <|
  cond ((bat y6 (w64 (y12 + 1))) == 45) (
  some (w64 (0 - z19))) (
  some z19)) fun (z44 : Int) =>
  chk (0 ≤ y12 ∧ y12 ≤ ln y6) <|
  some (sub y6 0 y12, w64 (3 + z44))) (
  some (y6, 3))) fun (z11 : Str × Int) =>
  Option.bind (strings_Cut z11.1 [46]) fun y57 =>
  chk (ln y57.1 + ln y57.2.1 ≤ 9223372036854775807) <|
  Option.bind (
  lt (decide ((w64 (z11.2 - (ln y57.2.1))) < 0)) fun x66 =>
  cond x66 (
  lt (w64 ((ln (y57.1 ++ y57.2.1)) + (w64 (z11.2 - (ln y57.2.1))))) fun x69 =>
  chk (0 ≤ (if 0 < x69 then x69 else 0) ∧ (if 0 < x69 then x69 else 0) ≤ ln (y57.1 ++ y57.2.1)) <|
  lt (sub (y57.1 ++ y57.2.1) 0 (if 0 < x69 then x69 else 0)) fun x71 =>
  some x71) (
  some (y57.1 ++ y57.2.1))) fun (z65 : Str) =>
  Option.bind (
  token_thousandths_L2 m z65 m 0 0) fun (z77 : Int) =>
  Option.bind (
  token_thousandths_L3 m  m (w64 (z11.2 - (ln y57.2.1))) z77) fun (z101 : Int) =>
  Option.bind (
  cond ((bat s 0) == 45) (
  some (w64 (0 - z101))) (
  some z101)) fun (z115 : Int) =>
  some z115
def token_scanner_numeric (m : Nat) (c_s : Str) (c_at_ : Int) : Option (TToken × Int) :=
  Option.bind (token_scanner_figures m c_s c_at_) fun y8 =>
  chk (0 ≤ c_at_ ∧ c_at_ ≤ y8.2 ∧ y8.2 ≤ ln c_s) <|
  Option.bind (token_thousandths m (sub c_s c_at_ y8.2)) fun y15 =>
  Option.bind (
  Option.bind (token_scanner_name c_s y8.2 0) fun y22 =>
  cond y22 (
  Option.bind (token_scanner_word m c_s y8.2) fun y27 =>
  some (12, y27.1, y27.2, y8.1)) (
  Option.bind (token_scanner_peek c_s y8.2 0) fun y38 =>
  cond (y38 == 37) (
  some (11, [], w64 (y8.2 + 1), false)) (
  some (10, [], y8.2, y8.1)))) fun (z21 : Int × Str × Int × Bool) =>
  some ((TToken.mk z21.1 [] y15 z21.2.1 z21.2.2.2), z21.2.2.1)
def input_Lower_L1 (m : Nat) (s : Str) : Nat → Int → (List Int) → Option (List Int)
  | 0, _, _ => none
  | kk + 1, v14, v15 =>
    cond (decide (v14 < (ln (ofB s)))) (
    Option.bind (
    chk (0 ≤ v14 ∧ v14 < ln (ofB s)) <|
    lt (cond (decide (65 ≤ (gi v15 v14))) (decide ((gi v15 v14) ≤ 90)) false) fun x22 =>
    cond x22 (
    lt (seti v15 v14 (ibit .or .u8 (gi v15 v14) 32)) fun q29 =>
    some q29) (
    some v15)) fun (z18 : List Int) =>
    input_Lower_L1 m s kk (w64 (v14 + 1)) z18) (
    some v15)
def input_Lower (m : Nat) (s : Str) : Option (Str) :=
  Option.bind (
  input_Lower_L1 m s m 0 (ofB s)) fun (z11 : List Int) =>
  some (toB z11)
def input_Alike (m : Nat) (a_ : Str) (b_ : Str) : Option (Bool) :=
  Option.bind (input_Lower m a_) fun y3 =>
  Option.bind (input_Lower m b_) fun y4 =>
  some (y3 == y4)
def token_scanner_bad_L1 (m : Nat) (c_s : Str) : Nat → Int → Option (TToken × Int)
  | 0, _ => none
  | kk + 1, v4 =>
    Option.bind (token_scanner_peek c_s v4 0) fun y5 =>
    cond (y5 == (-1)) (
    some ((TToken.mk 8 [] 0 [] false), v4)) (
    Option.bind (token_scanner_escape c_s v4 0) fun y12 =>
    cond y12 (
    Option.bind (token_scanner_escaped m c_s v4 []) fun y18 =>
    token_scanner_bad_L1 m c_s kk y18.2) (
    chk (0 ≤ (w64 ((w64 (v4 + 1)) - 1)) ∧ (w64 ((w64 (v4 + 1)) - 1)) < ln c_s) <|
    lt ((bat c_s (w64 ((w64 (v4 + 1)) - 1))) == 41) fun x28 =>
    cond x28 (
    some ((TToken.mk 8 [] 0 [] false), w64 (v4 + 1))) (
    token_scanner_bad_L1 m c_s kk (w64 (v4 + 1)))))
def token_scanner_bad (m : Nat) (c_s : Str) (c_at_ : Int) : Option (TToken × Int) :=
  token_scanner_bad_L1 m c_s m c_at_
def token_scanner_url_L1 (m : Nat) (c_s : Str) : Nat → (List Int) → Int → Option (TToken × Int)
  | 0, _, _ => none
  | kk + 1, v12, v14 =>
    Option.bind (token_scanner_peek c_s v14 0) fun y15 =>
    Option.bind (
    cond (token_space y15) (
    Option.bind (token_scanner_while m c_s v14) fun y23 =>
    Option.bind (token_scanner_peek c_s y23 0) fun y26 =>
    cond (cond (y26 != 41) (y26 != (-1)) false) (
    Option.bind (token_scanner_bad m c_s y23) fun y33 =>
    some (.inl (y33.1, y33.2))) (
    some (.inr (y26, y23)))) (
    some (.inr (y15, v14)))) fun (z18 : Sum (TToken × Int) (Int × Int)) => sumK z18 fun s_z18 =>
    cond (s_z18.1 == (-1)) (
    some ((TToken.mk 7 (toB v12) 0 [] false), s_z18.2)) (
    cond (s_z18.1 == 41) (
    some ((TToken.mk 7 (toB v12) 0 [] false), w64 (s_z18.2 + 1))) (
    lt (cond (s_z18.1 == 34) true (s_z18.1 == 39)) fun x56 =>
    lt (cond (cond x56 true (s_z18.1 == 40)) true (decide (s_z18.1 ≤ 8))) fun x57 =>
    lt (cond (cond x57 true (s_z18.1 == 11)) true (token_within s_z18.1 14 31)) fun x58 =>
    cond (cond x58 true (s_z18.1 == 127)) (
    Option.bind (token_scanner_bad m c_s s_z18.2) fun y63 =>
    some (y63.1, y63.2)) (
    cond (s_z18.1 != 92) (
    chk (ln v12 + ln ([wu8 s_z18.1] : List Int) ≤ 1099511627776) <|
    lt (v12 ++ ([wu8 s_z18.1] : List Int)) fun q77 =>
    token_scanner_url_L1 m c_s kk q77 (w64 (s_z18.2 + 1))) (
    Option.bind (token_scanner_escape c_s s_z18.2 0) fun y87 =>
    cond y87 (
    Option.bind (token_scanner_escaped m c_s s_z18.2 v12) fun y92 =>
    token_scanner_url_L1 m c_s kk y92.1 y92.2) (
    Option.bind (token_scanner_bad m c_s s_z18.2) fun y101 =>
    some (y101.1, y101.2))))))
def token_scanner_url (m : Nat) (c_s : Str) (c_at_ : Int) : Option (TToken × Int) :=
  Option.bind (token_scanner_while m c_s c_at_) fun y6 =>
  token_scanner_url_L1 m c_s m ([] : List Int) y6
def token_scanner_ident (m : Nat) (c_s : Str) (c_at_ : Int) : Option (TToken × Int) :=
  Option.bind (token_scanner_word m c_s c_at_) fun y6 =>
  Option.bind (token_scanner_peek c_s y6.2 0) fun y11 =>
  cond (y11 != 40) (
  some ((TToken.mk 1 y6.1 0 [] false), y6.2)) (
  Option.bind (
  Option.bind (input_Alike m y6.1 [117, 114, 108]) fun y23 =>
  cond y23 (
  Option.bind (token_scanner_while m c_s (w64 (y6.2 + 1))) fun y33 =>
  Option.bind (token_scanner_peek c_s y33 0) fun y36 =>
  cond (cond (y36 != 34) (y36 != 39) false) (
  Option.bind (token_scanner_url m c_s (w64 (y6.2 + 1))) fun y43 =>
  some (.inl (y43.1, y43.2))) (
  some (.inr ()))) (
  some (.inr ()))) fun (z22 : Sum (TToken × Int) (Unit)) => sumK z22 fun s_z22 =>
  some ((TToken.mk 2 y6.1 0 [] false), w64 (y6.2 + 1)))
def strings_IndexByte (s : Str) (c_ : Int) : Int :=
  (stringslite_IndexByte s c_)
def token_scanner_next (m : Nat) (c_s : Str) (c_at_ : Int) : Option (TToken × Int) :=
  Option.bind (token_scanner_peek c_s c_at_ 0) fun y4 =>
  chk (0 ≤ c_at_ ∧ c_at_ ≤ ln c_s) <|
  cond (token_space y4) (
  Option.bind (token_scanner_while m c_s c_at_) fun y12 =>
  some ((TToken.mk 13 [] 0 [] false), y12)) (
  cond (cond (y4 == 34) true (y4 == 39)) (
  Option.bind (token_scanner_quoted m c_s c_at_) fun y23 =>
  some (y23.1, y23.2)) (
  Option.bind (cond (y4 == 35) (token_scanner_peek c_s c_at_ 1) (some default)) fun y28 =>
  Option.bind (cond (y4 == 35) (cond (token_letter y28) (some default) (token_scanner_escape c_s c_at_ 1)) (some default)) fun y29 =>
  lt (cond (y4 == 35) (cond (token_letter y28) true y29) false) fun x30 =>
  cond x30 (
  Option.bind (token_scanner_name c_s c_at_ 1) fun y33 =>
  Option.bind (token_scanner_word m c_s (w64 (c_at_ + 1))) fun y42 =>
  some ((TToken.mk 4 y42.1 0 [] y33), y42.2)) (
  Option.bind (token_scanner_number c_s c_at_) fun y49 =>
  cond y49 (
  Option.bind (token_scanner_numeric m c_s c_at_) fun y54 =>
  some (y54.1, y54.2)) (
  Option.bind (strings_HasPrefix (sub c_s c_at_ (ln c_s)) [45, 45, 62]) fun y59 =>
  cond y59 (
  some ((TToken.mk 15 [] 0 [] false), w64 (c_at_ + 3))) (
  Option.bind (strings_HasPrefix (sub c_s c_at_ (ln c_s)) [60, 33, 45, 45]) fun y70 =>
  cond y70 (
  some ((TToken.mk 14 [] 0 [] false), w64 (c_at_ + 4))) (
  Option.bind (cond (y4 == 64) (token_scanner_name c_s c_at_ 1) (some default)) fun y81 =>
  cond (cond (y4 == 64) y81 false) (
  Option.bind (token_scanner_word m c_s (w64 (c_at_ + 1))) fun y90 =>
  some ((TToken.mk 3 y90.1 0 [] false), y90.2)) (
  Option.bind (token_scanner_name c_s c_at_ 0) fun y97 =>
  cond y97 (
  Option.bind (token_scanner_ident m c_s c_at_) fun y102 =>
  some (y102.1, y102.2)) (
  lt (strings_IndexByte [58, 59, 44, 91, 93, 40, 41, 123, 125] (wu8 y4)) fun y111 =>
  cond (decide (0 ≤ y111)) (
  some ((TToken.mk (wu8 (16 + (wu8 y111))) [] 0 [] false), w64 (c_at_ + 1))) (
  chk (0 ≤ (1 : Int) ∧ (1 : Int) ≤ ln (sub c_s c_at_ (ln c_s))) <|
  some ((TToken.mk 9 (sub (sub c_s c_at_ (ln c_s)) 0 1) 0 [] false), w64 (c_at_ + 1)))))))))))
def token_Tokens_1 (t_ : TToken) (from_ : Int) (to : Int) (u0 : List TToken) : Option (List TToken) :=
  chk (ln u0 + ln ([t_] : List TToken) ≤ 1099511627776) <|
  lt (u0 ++ ([t_] : List TToken)) fun q11 =>
  some q11
def token_read_L1 (m : Nat) (y3 : Str × Int) : Nat → Int → Int → (List TToken) → Option (Sum (Int × (List TToken)) (Int × (List TToken)))
  | 0, _, _, _ => none
  | kk + 1, v25, v26, v27 =>
    cond (decide (v26 < (ln y3.1))) (
    cond (decide (1500 < (w64 (v25 + 1)))) (
    some (.inl (4, v27))) (
    Option.bind (token_scanner_next m y3.1 v26) fun y41 =>
    Option.bind (token_Tokens_1 y41.1 v26 y41.2 v27) fun y50 =>
    Option.bind (token_scanner_comments m y3.1 y41.2) fun y59 =>
    token_read_L1 m y3 kk (w64 (v25 + 1)) y59 y50)) (
    some (.inr (v26, v27)))
def token_read (m : Nat) (s : Str) (tell_c0 : List TToken) : Option (Int × (List TToken)) :=
  lt (cleanF s) fun y3 =>
  cond (y3.2 != 0) (
  some (y3.2, tell_c0)) (
  Option.bind (token_scanner_comments m y3.1 0) fun y19 =>
  Option.bind (
  token_read_L1 m y3 m 0 y19 tell_c0) fun (z24 : Sum (Int × (List TToken)) (Int × (List TToken))) => sumK z24 fun s_z24 =>
  some (0, s_z24.2))
def token_Tokens (m : Nat) (s : Str) : Option ((List TToken) × Int) :=
  Option.bind (token_read m s ([] : List TToken)) fun y9 =>
  cond (y9.1 != 0) (
  some (([] : List TToken), y9.1)) (
  some (y9.2, 0))
def r01_Cleaned_L1 (m : Nat) (s : Str) : Nat → Str → Int → Option (Str)
  | 0, _, _ => none
  | kk + 1, v8, v9 =>
    cond (decide (v9 < (ln s))) (
    Option.bind (
    chk (0 ≤ v9 ∧ v9 < ln s) <|
    lt (cond ((bat s v9) == 10) (decide (0 < v9)) false) fun x16 =>
    chk (x16 = true → 0 ≤ (w64 (v9 - 1)) ∧ (w64 (v9 - 1)) < ln s) <|
    lt (cond x16 ((bat s (w64 (v9 - 1))) == 13) false) fun x18 =>
    cond x18 (
    some v8) (
    Option.bind (
    lt (cond ((bat s v9) == 13) true ((bat s v9) == 12)) fun x22 =>
    cond x22 (
    some 10) (
    some (bat s v9))) fun (z21 : Int) =>
    cond (z21 == 0) (
    chk (ln v8 + ln (toB ([239, 191, 189] : List Int)) ≤ 9223372036854775807) <|
    some (v8 ++ (toB ([239, 191, 189] : List Int)))) (
    chk (ln v8 + ln (toB ([z21] : List Int)) ≤ 9223372036854775807) <|
    some (v8 ++ (toB ([z21] : List Int)))))) fun (z12 : Str) =>
    r01_Cleaned_L1 m s kk z12 (w64 (v9 + 1))) (
    some v8)
def r01_Cleaned (m : Nat) (s : Str) : Option (Str) :=
  Option.bind (
  r01_Cleaned_L1 m s m [] 0) fun (z5 : Str) =>
  some z5
def r01_Clean (m : Nat) (s : Str) : Option (Str × Int) :=
  cond (decide (4000 < (ln s))) (
  some ([], 28)) (
  Option.bind (r01_Cleaned m s) fun y7 =>
  some (y7, 0))
def r02_has (s : Str) (i : Int) (x_ : Str) : Option (Bool) :=
  chk ((decide ((ln x_) ≤ (w64 ((ln s) - i)))) = true → 0 ≤ i ∧ i ≤ (w64 (i + (ln x_))) ∧ (w64 (i + (ln x_))) ≤ ln s) <|
  lt (cond (decide ((ln x_) ≤ (w64 ((ln s) - i)))) ((sub s i (w64 (i + (ln x_)))) == x_) false) fun x4 =>
  some x4
def r02_Past_L2 (m : Nat) (s : Str) : Nat → Int → Option (Int)
  | 0, _ => none
  | kk + 1, v11 =>
    Option.bind (cond (decide (v11 < (ln s))) (r02_has s v11 [42, 47]) (some default)) fun y12 =>
    lt (cond (decide (v11 < (ln s))) (!y12) false) fun x13 =>
    cond x13 (
    r02_Past_L2 m s kk (w64 (v11 + 1))) (
    some v11)
def r02_Past_L1 (m : Nat) (s : Str) : Nat → Int → Option (Int)
  | 0, _ => none
  | kk + 1, v4 =>
    Option.bind (r02_has s v4 [47, 42]) fun y5 =>
    cond y5 (
    Option.bind (
    r02_Past_L2 m s m (w64 (v4 + 2))) fun (z10 : Int) =>
    lt (if w64 (z10 + 2) < ln s then w64 (z10 + 2) else ln s) fun x20 =>
    r02_Past_L1 m s kk x20) (
    some v4)
def r02_Past (m : Nat) (s : Str) (i : Int) : Option (Int) :=
  Option.bind (
  r02_Past_L1 m s m i) fun (z3 : Int) =>
  some z3
def r02_Space (c_ : Int) : Bool :=
  lt (cond (cond (c_ == 10) true (c_ == 9)) true (c_ == 32)) fun x3 =>
  x3
def r02_At (s : Str) (i : Int) : Option (Int) :=
  cond (decide (i < (ln s))) (
  chk (0 ≤ i ∧ i < ln s) <|
  some (bat s i)) (
  some 0)
def r02_spaces_L1 (m : Nat) (s : Str) : Nat → Int → Option (Int)
  | 0, _ => none
  | kk + 1, v4 =>
    Option.bind (r02_At s v4) fun y5 =>
    cond (r02_Space y5) (
    r02_spaces_L1 m s kk (w64 (v4 + 1))) (
    some v4)
def r02_spaces (m : Nat) (s : Str) (i : Int) : Option (Int) :=
  Option.bind (
  r02_spaces_L1 m s m i) fun (z3 : Int) =>
  some z3
def r02_lost  : Str :=
  toB ([239, 191, 189] : List Int)
def r02_Digit (c_ : Int) : Bool :=
  lt (cond (decide (48 ≤ c_)) (decide (c_ ≤ 57)) false) fun x3 =>
  x3
def r01_Small (c_ : Int) : Int :=
  lt (cond (decide (65 ≤ c_)) (decide (c_ ≤ 90)) false) fun x3 =>
  cond x3 (
  wu8 ((wu8 (c_ - 65)) + 97)) (
  c_)
def r02_Hex (c_ : Int) : Int :=
  cond (r02_Digit c_) (
  w64 (wu8 (c_ - 48))) (
  lt (cond (decide (97 ≤ (r01_Small c_))) (decide ((r01_Small c_) ≤ 102)) false) fun x9 =>
  cond x9 (
  lt (w64 ((w64 (wu8 ((r01_Small c_) - 97))) + 10)) fun x12 =>
  x12) (
  (-1)))
def r02_UTF8 (n_ : Int) : Str :=
  lt (cond (n_ == 0) true (cond (decide (55296 ≤ n_)) (decide (n_ ≤ 57343)) false)) fun x3 =>
  cond (cond x3 true (decide (1114111 < n_))) (
  r02_lost) (
  cond (decide (n_ < 128)) (
  toB ([wu8 n_] : List Int)) (
  cond (decide (n_ < 2048)) (
  lt (toB ([wu8 (w64 (192 + (w64 (Int.tdiv n_ 64)))), wu8 (w64 (128 + (Int.tmod n_ 64)))] : List Int)) fun x26 =>
  x26) (
  cond (decide (n_ < 65536)) (
  lt (wu8 (w64 (224 + (w64 (Int.tdiv n_ 4096))))) fun x31 =>
  lt (w64 (128 + (Int.tmod (w64 (Int.tdiv n_ 64)) 64))) fun x32 =>
  lt (toB ([x31, wu8 x32, wu8 (w64 (128 + (Int.tmod n_ 64)))] : List Int)) fun x39 =>
  x39) (
  lt (wu8 (w64 (240 + (w64 (Int.tdiv n_ 262144))))) fun x42 =>
  lt (w64 (128 + (Int.tmod (w64 (Int.tdiv n_ 4096)) 64))) fun x43 =>
  lt (w64 (128 + (Int.tmod (w64 (Int.tdiv n_ 64)) 64))) fun x44 =>
  lt (toB ([x42, wu8 x43, wu8 x44, wu8 (w64 (128 + (Int.tmod n_ 64)))] : List Int)) fun x51 =>
  x51))))
def r02_Escaped_L1 (m : Nat) (s : Str) (i : Int) : Nat → Int → Int → Option (Int × Int)
  | 0, _, _ => none
  | kk + 1, v20, v21 =>
    lt (cond (decide (v21 < (ln s))) (decide (v21 < (w64 ((w64 (i + 1)) + 6)))) false) fun x22 =>
    chk (x22 = true → 0 ≤ v21 ∧ v21 < ln s) <|
    lt (cond x22 (decide (0 ≤ (r02_Hex (bat s v21)))) false) fun x24 =>
    cond x24 (
    chk (0 ≤ v21 ∧ v21 < ln s) <|
    lt (w64 ((w64 (16 * v20)) + (r02_Hex (bat s v21)))) fun x28 =>
    r02_Escaped_L1 m s i kk x28 (w64 (v21 + 1))) (
    some (v20, v21))
def r02_Escaped (m : Nat) (s : Str) (i : Int) : Option (Str × Int) :=
  cond (decide ((ln s) ≤ (w64 (i + 1)))) (
  some (r02_lost, w64 (i + 1))) (
  chk (0 ≤ (w64 (i + 1)) ∧ (w64 (i + 1)) < ln s) <|
  lt (decide ((r02_Hex (bat s (w64 (i + 1)))) < 0)) fun x10 =>
  cond x10 (
  chk (0 ≤ (w64 (i + 1)) ∧ (w64 (i + 1)) ≤ (w64 ((w64 (i + 1)) + 1)) ∧ (w64 ((w64 (i + 1)) + 1)) ≤ ln s) <|
  lt (sub s (w64 (i + 1)) (w64 ((w64 (i + 1)) + 1))) fun x14 =>
  some (x14, w64 ((w64 (i + 1)) + 1))) (
  Option.bind (
  r02_Escaped_L1 m s i m 0 (w64 (i + 1))) fun (z19 : Int × Int) =>
  Option.bind (
  Option.bind (r02_At s z19.2) fun y36 =>
  cond (r02_Space y36) (
  some (w64 (z19.2 + 1))) (
  some z19.2)) fun (z35 : Int) =>
  some ((r02_UTF8 z19.1), z35)))
def r02_quoted_L1 (m : Nat) (s : Str) (i : Int) : Nat → Int → Str → Option (Sum (TToken × Int) (Int × Str))
  | 0, _, _ => none
  | kk + 1, v19, v20 =>
    cond (decide (v19 < (ln s))) (
    chk (0 ≤ v19 ∧ v19 < ln s) <|
    cond ((bat s v19) == (bat s i)) (
    some (.inl ((TToken.mk 5 v20 0 [] false), w64 (v19 + 1)))) (
    cond ((bat s v19) == 10) (
    some (.inl ((TToken.mk 6 [] 0 [] false), v19))) (
    lt (cond ((bat s v19) == 92) ((w64 (v19 + 1)) == (ln s)) false) fun x40 =>
    cond x40 (
    r02_quoted_L1 m s i kk (w64 (v19 + 1)) v20) (
    chk (((bat s v19) == 92) = true → 0 ≤ (w64 (v19 + 1)) ∧ (w64 (v19 + 1)) < ln s) <|
    lt (cond ((bat s v19) == 92) ((bat s (w64 (v19 + 1))) == 10) false) fun x46 =>
    cond x46 (
    r02_quoted_L1 m s i kk (w64 (v19 + 2)) v20) (
    cond ((bat s v19) == 92) (
    Option.bind (r02_Escaped m s v19) fun y53 =>
    chk (ln v20 + ln y53.1 ≤ 9223372036854775807) <|
    r02_quoted_L1 m s i kk y53.2 (v20 ++ y53.1)) (
    chk (0 ≤ v19 ∧ v19 ≤ (w64 (v19 + 1)) ∧ (w64 (v19 + 1)) ≤ ln s) <|
    chk (ln v20 + ln (sub s v19 (w64 (v19 + 1))) ≤ 9223372036854775807) <|
    r02_quoted_L1 m s i kk (w64 (v19 + 1)) (v20 ++ (sub s v19 (w64 (v19 + 1)))))))))) (
    some (.inr (v19, v20)))
def r02_quoted (m : Nat) (s : Str) (i : Int) : Option (TToken × Int) :=
  chk (0 ≤ i ∧ i < ln s) <|
  Option.bind (
  r02_quoted_L1 m s i m (w64 (i + 1)) []) fun (z16 : Sum (TToken × Int) (Int × Str)) => sumK z16 fun s_z16 =>
  some ((TToken.mk 5 s_z16.2 0 [] false), s_z16.1)
def r02_Starts (c_ : Int) : Bool :=
  lt (cond (decide (97 ≤ (r01_Small c_))) (decide ((r01_Small c_) ≤ 122)) false) fun x5 =>
  lt (cond (cond x5 true (c_ == 95)) true (decide (128 ≤ c_))) fun x6 =>
  x6
def r02_Letter (c_ : Int) : Bool :=
  lt (cond (cond (r02_Starts c_) true (r02_Digit c_)) true (c_ == 45)) fun x3 =>
  x3
def r02_Escape (s : Str) (i : Int) : Option (Bool) :=
  Option.bind (r02_At s i) fun y3 =>
  Option.bind (cond (y3 == 92) (r02_At s (w64 (i + 1))) (some default)) fun y4 =>
  some (cond (y3 == 92) (y4 != 10) false)
def r02_Named_L1 (m : Nat) (s : Str) : Nat → Int → Str → Option (Str × Int)
  | 0, _, _ => none
  | kk + 1, v5, v6 =>
    chk ((decide (v5 < (ln s))) = true → 0 ≤ v5 ∧ v5 < ln s) <|
    lt (cond (decide (v5 < (ln s))) (r02_Letter (bat s v5)) false) fun x8 =>
    cond x8 (
    chk (0 ≤ v5 ∧ v5 ≤ (w64 (v5 + 1)) ∧ (w64 (v5 + 1)) ≤ ln s) <|
    chk (ln v6 + ln (sub s v5 (w64 (v5 + 1))) ≤ 9223372036854775807) <|
    r02_Named_L1 m s kk (w64 (v5 + 1)) (v6 ++ (sub s v5 (w64 (v5 + 1))))) (
    Option.bind (cond (decide (v5 < (ln s))) (r02_Escape s v5) (some default)) fun y17 =>
    cond (cond (decide (v5 < (ln s))) y17 false) (
    Option.bind (r02_Escaped m s v5) fun y20 =>
    chk (ln v6 + ln y20.1 ≤ 9223372036854775807) <|
    r02_Named_L1 m s kk y20.2 (v6 ++ y20.1)) (
    some (v6, v5)))
def r02_Named (m : Nat) (s : Str) (i : Int) : Option (Str × Int) :=
  r02_Named_L1 m s m i []
def r02_NameAt (s : Str) (i : Int) : Option (Bool) :=
  Option.bind (r02_At s i) fun y3 =>
  cond (y3 == 45) (
  Option.bind (r02_At s (w64 (i + 1))) fun y6 =>
  Option.bind (cond (r02_Starts y6) (some default) (r02_At s (w64 (i + 1)))) fun y7 =>
  Option.bind (cond (cond (r02_Starts y6) true (y7 == 45)) (some default) (r02_Escape s (w64 (i + 1)))) fun y8 =>
  lt (cond (cond (r02_Starts y6) true (y7 == 45)) true y8) fun x9 =>
  some x9) (
  Option.bind (r02_At s i) fun y12 =>
  Option.bind (cond (r02_Starts y12) (some default) (r02_Escape s i)) fun y13 =>
  some (cond (r02_Starts y12) true y13))
def r02_NumberAt (s : Str) (i : Int) : Option (Bool) :=
  Option.bind (
  Option.bind (r02_At s i) fun y4 =>
  cond (cond (y4 == 43) true (y4 == 45)) (
  some (w64 (i + 1))) (
  some i)) fun (z3 : Int) =>
  Option.bind (
  Option.bind (r02_At s z3) fun y13 =>
  cond (y13 == 46) (
  some (w64 (z3 + 1))) (
  some z3)) fun (z12 : Int) =>
  Option.bind (r02_At s z12) fun y19 =>
  some (r02_Digit y19)
def r02_digits_L1 (m : Nat) (s : Str) : Nat → Int → Option (Int)
  | 0, _ => none
  | kk + 1, v4 =>
    Option.bind (r02_At s v4) fun y5 =>
    cond (r02_Digit y5) (
    r02_digits_L1 m s kk (w64 (v4 + 1))) (
    some v4)
def r02_digits (m : Nat) (s : Str) (i : Int) : Option (Int) :=
  Option.bind (
  r02_digits_L1 m s m i) fun (z3 : Int) =>
  some z3
def r02_NumberEnd (m : Nat) (s : Str) (i : Int) : Option (Int × Bool) :=
  Option.bind (
  Option.bind (r02_At s i) fun y4 =>
  cond (cond (y4 == 43) true (y4 == 45)) (
  some (w64 (i + 1))) (
  some i)) fun (z3 : Int) =>
  Option.bind (r02_digits m s z3) fun y12 =>
  Option.bind (
  Option.bind (r02_At s y12) fun y18 =>
  Option.bind (cond (y18 == 46) (r02_At s (w64 (y12 + 1))) (some default)) fun y19 =>
  cond (cond (y18 == 46) (r02_Digit y19) false) (
  Option.bind (r02_digits m s (w64 (y12 + 1))) fun y24 =>
  some (y24, false)) (
  some (y12, true))) fun (z17 : Int × Bool) =>
  Option.bind (
  Option.bind (r02_At s z17.1) fun y29 =>
  cond (cond (y29 == 101) true (y29 == 69)) (
  Option.bind (
  Option.bind (r02_At s (w64 (z17.1 + 1))) fun y37 =>
  cond (cond (y37 == 43) true (y37 == 45)) (
  some (w64 ((w64 (z17.1 + 1)) + 1))) (
  some (w64 (z17.1 + 1)))) fun (z36 : Int) =>
  Option.bind (r02_At s z36) fun y45 =>
  cond (r02_Digit y45) (
  Option.bind (r02_digits m s z36) fun y50 =>
  some (y50, false)) (
  some (z17.1, z17.2))) (
  some (z17.1, z17.2))) fun (z28 : Int × Bool) =>
  some (z28.1, z28.2)
def r02_Thousandths_L1 (m : Nat) (s : Str) : Nat → Str → Int → Option (Str × Int)
  | 0, _, _ => none
  | kk + 1, v16, v17 =>
    Option.bind (r02_At s v17) fun y18 =>
    cond (r02_Digit y18) (
    chk (0 ≤ v17 ∧ v17 ≤ (w64 (v17 + 1)) ∧ (w64 (v17 + 1)) ≤ ln s) <|
    chk (ln v16 + ln (sub s v17 (w64 (v17 + 1))) ≤ 9223372036854775807) <|
    r02_Thousandths_L1 m s kk (v16 ++ (sub s v17 (w64 (v17 + 1)))) (w64 (v17 + 1))) (
    some (v16, v17))
def r02_Thousandths_L2 (m : Nat) (s : Str) : Nat → Str → Int → Int → Option (Str × Int × Int)
  | 0, _, _, _ => none
  | kk + 1, v35, v36, v37 =>
    Option.bind (r02_At s v37) fun y38 =>
    cond (r02_Digit y38) (
    chk (0 ≤ v37 ∧ v37 ≤ (w64 (v37 + 1)) ∧ (w64 (v37 + 1)) ≤ ln s) <|
    chk (ln v35 + ln (sub s v37 (w64 (v37 + 1))) ≤ 9223372036854775807) <|
    r02_Thousandths_L2 m s kk (v35 ++ (sub s v37 (w64 (v37 + 1)))) (w64 (v36 - 1)) (w64 (v37 + 1))) (
    some (v35, v36, v37))
def r02_Thousandths_L3 (m : Nat) (s : Str) : Nat → Int → Int → Option (Int)
  | 0, _, _ => none
  | kk + 1, v70, v71 =>
    cond (decide (v70 < (ln s))) (
    chk (0 ≤ v70 ∧ v70 < ln s) <|
    lt (w64 ((w64 (10 * v71)) + (w64 (wu8 ((bat s v70) - 48))))) fun x75 =>
    r02_Thousandths_L3 m s kk (w64 (v70 + 1)) (if x75 < 10000 then x75 else 10000)) (
    some v71)
def r02_Thousandths_L4 (m : Nat) (z29 : Str × Int × Int) (z52 : Int) : Nat → Int → Int → Option (Int)
  | 0, _, _ => none
  | kk + 1, v99, v100 =>
    lt (cond (decide (v100 < (w64 ((ln z29.1) + z52)))) (decide (v100 < (ln z29.1))) false) fun x101 =>
    cond x101 (
    chk (0 ≤ v100 ∧ v100 < ln z29.1) <|
    lt (w64 ((w64 (10 * v99)) + (w64 (wu8 ((bat z29.1 v100) - 48))))) fun x105 =>
    lt (if x105 < 1000000000000 then x105 else 1000000000000) fun x106 =>
    r02_Thousandths_L4 m z29 z52 kk x106 (w64 (v100 + 1))) (
    some v99)
def r02_Thousandths_L5 (m : Nat)  : Nat → Int → Int → Option (Int)
  | 0, _, _ => none
  | kk + 1, v114, v115 =>
    lt (cond (decide (0 < v114)) (decide (0 < v115)) false) fun x116 =>
    lt (cond x116 (decide (v115 < 1000000000000)) false) fun x117 =>
    cond x117 (
    lt (if w64 (10 * v115) < 1000000000000 then w64 (10 * v115) else 1000000000000) fun x120 =>
    r02_Thousandths_L5 m  kk (w64 (v114 - 1)) x120) (
    some v115)
def r02_Thousandths (m : Nat) (s : Str) : Option (Int) :=
  chk (0 ≤ (0 : Int) ∧ (0 : Int) < ln s) <|
  Option.bind (
  lt (cond ((bat s 0) == 43) true ((bat s 0) == 45)) fun x9 =>
  cond x9 (
  some 1) (
  some 0)) fun (z8 : Int) =>
  Option.bind (
  r02_Thousandths_L1 m s m [] z8) fun (z15 : Str × Int) =>
  Option.bind (
  Option.bind (r02_At s z15.2) fun y30 =>
  cond (y30 == 46) (
  r02_Thousandths_L2 m s m z15.1 3 (w64 (z15.2 + 1))) (
  some (z15.1, 3, z15.2))) fun (z29 : Str × Int × Int) =>
  Option.bind (
  cond (decide (z29.2.2 < (ln s))) (
  chk (0 ≤ (w64 (z29.2.2 + 1)) ∧ (w64 (z29.2.2 + 1)) < ln s) <|
  Option.bind (
  lt (cond ((bat s (w64 (z29.2.2 + 1))) == 43) true ((bat s (w64 (z29.2.2 + 1))) == 45)) fun x61 =>
  cond x61 (
  some (w64 ((w64 (z29.2.2 + 1)) + 1))) (
  some (w64 (z29.2.2 + 1)))) fun (z60 : Int) =>
  Option.bind (
  r02_Thousandths_L3 m s m z60 0) fun (z69 : Int) =>
  Option.bind (
  cond ((bat s (w64 (z29.2.2 + 1))) == 45) (
  some (w64 (0 - z69))) (
  some z69)) fun (z82 : Int) =>
  some (w64 (z29.2.1 + z82))) (
  some z29.2.1)) fun (z52 : Int) =>
  Option.bind (
  r02_Thousandths_L4 m z29 z52 m 0 0) fun (z96 : Int) =>
  Option.bind (
  r02_Thousandths_L5 m  m z52 z96) fun (z113 : Int) =>
  cond ((bat s 0) == 45) (
  some (w64 (0 - z113))) (
  some z113)
def r02_numeric (m : Nat) (s : Str) (i : Int) : Option (TToken × Int) :=
  Option.bind (r02_NumberEnd m s i) fun y6 =>
  chk (0 ≤ i ∧ i ≤ y6.1 ∧ y6.1 ≤ ln s) <|
  Option.bind (r02_Thousandths m (sub s i y6.1)) fun y10 =>
  Option.bind (
  Option.bind (r02_NameAt s y6.1) fun y19 =>
  cond y19 (
  Option.bind (r02_Named m s y6.1) fun y26 =>
  some (y26.2, 12, y26.1, y6.2)) (
  Option.bind (r02_At s y6.1) fun y33 =>
  cond (y33 == 37) (
  some (w64 (y6.1 + 1), 11, [], false)) (
  some (y6.1, 10, [], y6.2)))) fun (z18 : Int × Int × Str × Bool) =>
  some ((TToken.mk z18.2.1 [] y10 z18.2.2.1 z18.2.2.2), z18.1)
def r01_Lower_L1 (m : Nat) (s : Str) : Nat → Int → (List Int) → Option (List Int)
  | 0, _, _ => none
  | kk + 1, v14, v15 =>
    cond (decide (v14 < (ln (ofB s)))) (
    chk (0 ≤ v14 ∧ v14 < ln (ofB s)) <|
    lt (seti v15 v14 (r01_Small (gi v15 v14))) fun q23 =>
    r01_Lower_L1 m s kk (w64 (v14 + 1)) q23) (
    some v15)
def r01_Lower (m : Nat) (s : Str) : Option (Str) :=
  Option.bind (
  r01_Lower_L1 m s m 0 (ofB s)) fun (z11 : List Int) =>
  some (toB z11)
def r01_Alike (m : Nat) (a_ : Str) (b_ : Str) : Option (Bool) :=
  Option.bind (r01_Lower m a_) fun y3 =>
  Option.bind (r01_Lower m b_) fun y4 =>
  some (y3 == y4)
def r02_bad_L1 (m : Nat) (s : Str) : Nat → Int → Option (Int)
  | 0, _ => none
  | kk + 1, v7 =>
    chk ((decide (v7 < (ln s))) = true → 0 ≤ v7 ∧ v7 < ln s) <|
    lt (cond (decide (v7 < (ln s))) ((bat s v7) != 41) false) fun x9 =>
    cond x9 (
    Option.bind (r02_Escape s v7) fun y12 =>
    cond y12 (
    Option.bind (r02_Escaped m s v7) fun y15 =>
    r02_bad_L1 m s kk y15.2) (
    r02_bad_L1 m s kk (w64 (v7 + 1)))) (
    some v7)
def r02_bad (m : Nat) (s : Str) (i : Int) : Option (TToken × Int) :=
  Option.bind (
  r02_bad_L1 m s m i) fun (z6 : Int) =>
  lt (if w64 (z6 + 1) < ln s then w64 (z6 + 1) else ln s) fun x23 =>
  some ((TToken.mk 8 [] 0 [] false), x23)
def r02_Unprintable (c_ : Int) : Bool :=
  lt (cond (cond (decide (c_ ≤ 8)) true (c_ == 11)) true (cond (decide (14 ≤ c_)) (decide (c_ ≤ 31)) false)) fun x3 =>
  cond x3 true (c_ == 127)
def r02_url_L1 (m : Nat) (s : Str) : Nat → Int → Str → Option (Sum (TToken × Int) (Int × Str))
  | 0, _, _ => none
  | kk + 1, v17, v18 =>
    chk ((decide (v17 < (ln s))) = true → 0 ≤ v17 ∧ v17 < ln s) <|
    lt (cond (decide (v17 < (ln s))) ((bat s v17) != 41) false) fun x20 =>
    cond x20 (
    chk (0 ≤ v17 ∧ v17 < ln s) <|
    cond (r02_Space (bat s v17)) (
    Option.bind (r02_spaces m s v17) fun y28 =>
    chk ((decide (y28 < (ln s))) = true → 0 ≤ y28 ∧ y28 < ln s) <|
    lt (cond (decide (y28 < (ln s))) ((bat s y28) != 41) false) fun x32 =>
    cond x32 (
    Option.bind (r02_bad m s y28) fun y35 =>
    some (.inl (y35.1, y35.2))) (
    r02_url_L1 m s kk y28 v18)) (
    lt (cond ((bat s v17) == 34) true ((bat s v17) == 39)) fun x43 =>
    lt (cond (cond x43 true ((bat s v17) == 40)) true (r02_Unprintable (bat s v17))) fun x44 =>
    Option.bind (cond x44 (some default) (cond ((bat s v17) == 92) (r02_Escape s v17) (some default))) fun y45 =>
    lt (cond x44 true (cond ((bat s v17) == 92) (!y45) false)) fun x46 =>
    cond x46 (
    Option.bind (r02_bad m s v17) fun y49 =>
    some (.inl (y49.1, y49.2))) (
    cond ((bat s v17) == 92) (
    Option.bind (r02_Escaped m s v17) fun y58 =>
    chk (ln v18 + ln y58.1 ≤ 9223372036854775807) <|
    r02_url_L1 m s kk y58.2 (v18 ++ y58.1)) (
    chk (0 ≤ v17 ∧ v17 ≤ (w64 (v17 + 1)) ∧ (w64 (v17 + 1)) ≤ ln s) <|
    chk (ln v18 + ln (sub s v17 (w64 (v17 + 1))) ≤ 9223372036854775807) <|
    r02_url_L1 m s kk (w64 (v17 + 1)) (v18 ++ (sub s v17 (w64 (v17 + 1)))))))) (
    some (.inr (v17, v18)))
def r02_url (m : Nat) (s : Str) (i : Int) : Option (TToken × Int) :=
  Option.bind (
  Option.bind (r02_spaces m s i) fun y14 =>
  r02_url_L1 m s m y14 []) fun (z13 : Sum (TToken × Int) (Int × Str)) => sumK z13 fun s_z13 =>
  lt (if w64 (s_z13.1 + 1) < ln s then w64 (s_z13.1 + 1) else ln s) fun x81 =>
  some ((TToken.mk 7 s_z13.2 0 [] false), x81)
def r02_word (m : Nat) (s : Str) (i : Int) : Option (TToken × Int) :=
  Option.bind (r02_Named m s i) fun y6 =>
  Option.bind (r02_At s y6.2) fun y9 =>
  cond (y9 != 40) (
  some ((TToken.mk 1 y6.1 0 [] false), y6.2)) (
  Option.bind (
  Option.bind (r01_Alike m y6.1 [117, 114, 108]) fun y19 =>
  cond y19 (
  Option.bind (r02_spaces m s (w64 (y6.2 + 1))) fun y22 =>
  Option.bind (r02_At s y22) fun y23 =>
  cond (cond (y23 != 34) (y23 != 39) false) (
  Option.bind (r02_url m s (w64 (y6.2 + 1))) fun y28 =>
  some (.inl (y28.1, y28.2))) (
  some (.inr ()))) (
  some (.inr ()))) fun (z18 : Sum (TToken × Int) (Unit)) => sumK z18 fun s_z18 =>
  some ((TToken.mk 2 y6.1 0 [] false), w64 (y6.2 + 1)))
def r02_mark (c_ : Int) : Int :=
  cond (c_ == 58) (
  16) (
  cond (c_ == 59) (
  17) (
  cond (c_ == 44) (
  18) (
  cond (c_ == 91) (
  19) (
  cond (c_ == 93) (
  20) (
  cond (c_ == 40) (
  21) (
  cond (c_ == 41) (
  22) (
  cond (c_ == 123) (
  23) (
  cond (c_ == 125) (
  24) (
  0)))))))))
def r02_One (m : Nat) (s : Str) (i : Int) : Option (TToken × Int) :=
  chk (0 ≤ i ∧ i < ln s) <|
  cond (r02_Space (bat s i)) (
  Option.bind (r02_spaces m s i) fun y11 =>
  some ((TToken.mk 13 [] 0 [] false), y11)) (
  lt (cond ((bat s i) == 34) true ((bat s i) == 39)) fun x18 =>
  cond x18 (
  Option.bind (r02_quoted m s i) fun y21 =>
  some (y21.1, y21.2)) (
  chk ((decide ((w64 (i + 1)) < (ln s))) = true → ((bat s i) == 35) = true → 0 ≤ (w64 (i + 1)) ∧ (w64 (i + 1)) < ln s) <|
  Option.bind (cond ((bat s i) == 35) (cond (cond (decide ((w64 (i + 1)) < (ln s))) (r02_Letter (bat s (w64 (i + 1)))) false) (some default) (r02_Escape s (w64 (i + 1)))) (some default)) fun y29 =>
  lt (cond ((bat s i) == 35) (cond (cond (decide ((w64 (i + 1)) < (ln s))) (r02_Letter (bat s (w64 (i + 1)))) false) true y29) false) fun x30 =>
  cond x30 (
  Option.bind (r02_Named m s (w64 (i + 1))) fun y33 =>
  Option.bind (r02_NameAt s (w64 (i + 1))) fun y36 =>
  some ((TToken.mk 4 y33.1 0 [] y36), y33.2)) (
  Option.bind (r02_NumberAt s i) fun y43 =>
  cond y43 (
  Option.bind (r02_numeric m s i) fun y46 =>
  some (y46.1, y46.2)) (
  Option.bind (r02_has s i [45, 45, 62]) fun y53 =>
  cond y53 (
  some ((TToken.mk 15 [] 0 [] false), w64 (i + 3))) (
  Option.bind (r02_has s i [60, 33, 45, 45]) fun y62 =>
  cond y62 (
  some ((TToken.mk 14 [] 0 [] false), w64 (i + 4))) (
  Option.bind (cond ((bat s i) == 64) (r02_NameAt s (w64 (i + 1))) (some default)) fun y71 =>
  cond (cond ((bat s i) == 64) y71 false) (
  Option.bind (r02_Named m s (w64 (i + 1))) fun y74 =>
  some ((TToken.mk 3 y74.1 0 [] false), y74.2)) (
  Option.bind (r02_NameAt s i) fun y83 =>
  cond y83 (
  Option.bind (r02_word m s i) fun y86 =>
  some (y86.1, y86.2)) (
  cond ((r02_mark (bat s i)) != 0) (
  some ((TToken.mk (r02_mark (bat s i)) [] 0 [] false), w64 (i + 1))) (
  chk (0 ≤ i ∧ i ≤ (w64 (i + 1)) ∧ (w64 (i + 1)) ≤ ln s) <|
  some ((TToken.mk 9 (sub s i (w64 (i + 1))) 0 [] false), w64 (i + 1)))))))))))
structure TA2_int where
  e0 : Int
  e1 : Int
instance : Inhabited TA2_int := ⟨⟨default, default⟩⟩
def r02_Cut_L1 (m : Nat) (s : Str) : Nat → (List TToken) → (List TA2_int) → Int → Option ((List TToken) × (List TA2_int))
  | 0, _, _, _ => none
  | kk + 1, v13, v15, v17 =>
    cond (decide (v17 < (ln s))) (
    Option.bind (r02_One m s v17) fun y20 =>
    chk (ln v13 + ln ([y20.1] : List TToken) ≤ 1099511627776) <|
    lt (v13 ++ ([y20.1] : List TToken)) fun q37 =>
    chk (ln v15 + ln ([(TA2_int.mk v17 y20.2)] : List TA2_int) ≤ 1099511627776) <|
    lt (v15 ++ ([(TA2_int.mk v17 y20.2)] : List TA2_int)) fun q48 =>
    Option.bind (r02_Past m s y20.2) fun y54 =>
    r02_Cut_L1 m s kk q37 q48 y54) (
    some (v13, v15))
def r02_Cut (m : Nat) (s : Str) : Option ((List TToken) × (List TA2_int)) :=
  Option.bind (
  Option.bind (r02_Past m s 0) fun y8 =>
  r02_Cut_L1 m s m ([] : List TToken) ([] : List TA2_int) y8) fun (z7 : (List TToken) × (List TA2_int)) =>
  some (z7.1, z7.2)
def r02_Tokens (m : Nat) (s : Str) : Option ((List TToken) × Int) :=
  Option.bind (r01_Clean m s) fun y3 =>
  cond (y3.2 != 0) (
  some (([] : List TToken), y3.2)) (
  Option.bind (r02_Cut m y3.1) fun y13 =>
  cond (decide (1500 < (ln y13.1))) (
  some (([] : List TToken), 4)) (
  some (y13.1, 0)))
def token_Spans_1 (t_ : TToken) (from_ : Int) (to : Int) (u0 : List TA2_int) : Option (List TA2_int) :=
  chk (ln u0 + ln ([(TA2_int.mk from_ to)] : List TA2_int) ≤ 1099511627776) <|
  lt (u0 ++ ([(TA2_int.mk from_ to)] : List TA2_int)) fun q11 =>
  some q11
def token_read_2_L1 (m : Nat) (y3 : Str × Int) : Nat → Int → Int → (List TA2_int) → Option (Sum (Int × (List TA2_int)) (Int × (List TA2_int)))
  | 0, _, _, _ => none
  | kk + 1, v25, v26, v27 =>
    cond (decide (v26 < (ln y3.1))) (
    cond (decide (1500 < (w64 (v25 + 1)))) (
    some (.inl (4, v27))) (
    Option.bind (token_scanner_next m y3.1 v26) fun y41 =>
    Option.bind (token_Spans_1 y41.1 v26 y41.2 v27) fun y50 =>
    Option.bind (token_scanner_comments m y3.1 y41.2) fun y59 =>
    token_read_2_L1 m y3 kk (w64 (v25 + 1)) y59 y50)) (
    some (.inr (v26, v27)))
def token_read_2 (m : Nat) (s : Str) (tell_c0 : List TA2_int) : Option (Int × (List TA2_int)) :=
  lt (cleanF s) fun y3 =>
  cond (y3.2 != 0) (
  some (y3.2, tell_c0)) (
  Option.bind (token_scanner_comments m y3.1 0) fun y19 =>
  Option.bind (
  token_read_2_L1 m y3 m 0 y19 tell_c0) fun (z24 : Sum (Int × (List TA2_int)) (Int × (List TA2_int))) => sumK z24 fun s_z24 =>
  some (0, s_z24.2))
def token_Spans (m : Nat) (s : Str) : Option ((List TA2_int) × Int) :=
  Option.bind (token_read_2 m s ([] : List TA2_int)) fun y9 =>
  cond (y9.1 != 0) (
  some (([] : List TA2_int), y9.1)) (
  some (y9.2, 0))
def r02_Spans (m : Nat) (s : Str) : Option ((List TA2_int) × Int) :=
  Option.bind (r01_Clean m s) fun y3 =>
  cond (y3.2 != 0) (
  some (([] : List TA2_int), y3.2)) (
  Option.bind (r02_Cut m y3.1) fun y13 =>
  cond (decide (1500 < (ln y13.2))) (
  some (([] : List TA2_int), 4)) (
  some (y13.2, 0)))
def r02_Same_L1 (m : Nat) (a_ : List TToken) (b_ : List TToken) : Nat → Int → Option (Sum (Bool) (Unit))
  | 0, _ => none
  | kk + 1, v10 =>
    cond (decide (v10 < (ln a_))) (
    chk (0 ≤ v10 ∧ v10 < ln a_) <|
    chk (0 ≤ v10 ∧ v10 < ln b_) <|
    lt (!((((gi a_ v10).Kind) == ((gi b_ v10).Kind)) && ((((gi a_ v10).Text) == ((gi b_ v10).Text)) && ((((gi a_ v10).Num) == ((gi b_ v10).Num)) && ((((gi a_ v10).Unit) == ((gi b_ v10).Unit)) && ((((gi a_ v10).Flag) == ((gi b_ v10).Flag)) && true)))))) fun x15 =>
    cond x15 (
    some (.inl false)) (
    r02_Same_L1 m a_ b_ kk (w64 (v10 + 1)))) (
    some (.inr ()))
def r02_Same (m : Nat) (a_ : List TToken) (b_ : List TToken) : Option (Bool) :=
  cond ((ln a_) != (ln b_)) (
  some false) (
  Option.bind (
  r02_Same_L1 m a_ b_ m 0) fun (z7 : Sum (Bool) (Unit)) => sumK z7 fun s_z7 =>
  some true)
def r02_SameSpans_L1 (m : Nat) (a_ : List TA2_int) (b_ : List TA2_int) : Nat → Int → Option (Sum (Bool) (Unit))
  | 0, _ => none
  | kk + 1, v10 =>
    cond (decide (v10 < (ln a_))) (
    chk (0 ≤ v10 ∧ v10 < ln a_) <|
    chk (0 ≤ v10 ∧ v10 < ln b_) <|
    lt (!((((gi a_ v10).e0) == ((gi b_ v10).e0)) && ((((gi a_ v10).e1) == ((gi b_ v10).e1)) && true))) fun x15 =>
    cond x15 (
    some (.inl false)) (
    r02_SameSpans_L1 m a_ b_ kk (w64 (v10 + 1)))) (
    some (.inr ()))
def r02_SameSpans (m : Nat) (a_ : List TA2_int) (b_ : List TA2_int) : Option (Bool) :=
  cond ((ln a_) != (ln b_)) (
  some false) (
  Option.bind (
  r02_SameSpans_L1 m a_ b_ m 0) fun (z7 : Sum (Bool) (Unit)) => sumK z7 fun s_z7 =>
  some true)
def law02_is (m : Nat) (s : Str) (want : TToken) : Option (Bool) :=
  Option.bind (token_Tokens m s) fun y8 =>
  chk ((cond (y8.2 == 0) ((ln y8.1) == 1) false) = true → 0 ≤ (0 : Int) ∧ (0 : Int) < ln y8.1) <|
  lt (cond (cond (y8.2 == 0) ((ln y8.1) == 1) false) ((((gi y8.1 (0 : Int)).Kind) == want.Kind) && ((((gi y8.1 (0 : Int)).Text) == want.Text) && ((((gi y8.1 (0 : Int)).Num) == want.Num) && ((((gi y8.1 (0 : Int)).Unit) == want.Unit) && ((((gi y8.1 (0 : Int)).Flag) == want.Flag) && true))))) false) fun x16 =>
  some x16
def law02_alive (m : Nat)  : Option (Bool) :=
  Option.bind (token_Tokens m [97, 46, 98, 123, 99, 111, 108, 111, 114, 58, 35, 102, 48, 48, 125]) fun y3 =>
  Option.bind (token_Spans m [97, 46, 98, 123, 99, 111, 108, 111, 114, 58, 35, 102, 48, 48, 125]) fun y10 =>
  lt (cond (cond (y3.2 != 0) true (y10.2 != 0)) true ((ln y10.1) != 8)) fun x17 =>
  chk (x17 = false → 0 ≤ (7 : Int) ∧ (7 : Int) < ln y10.1) <|
  lt (cond x17 true (!((((gi y10.1 (7 : Int)).e0) == 14) && ((((gi y10.1 (7 : Int)).e1) == 15) && true)))) fun x19 =>
  cond x19 (
  some false) (
  Option.bind (r02_Same m y3.1 ([(TToken.mk 1 [97] 0 [] false), (TToken.mk 9 [46] 0 [] false), (TToken.mk 1 [98] 0 [] false), (TToken.mk 23 [] 0 [] false), (TToken.mk 1 [99, 111, 108, 111, 114] 0 [] false), (TToken.mk 16 [] 0 [] false), (TToken.mk 4 [102, 48, 48] 0 [] true), (TToken.mk 24 [] 0 [] false)] : List TToken)) fun y32 =>
  Option.bind (cond y32 (law02_is m [45, 49, 46, 53, 101, 109] (TToken.mk 12 [] (-1500) [101, 109] false)) (some default)) fun y33 =>
  Option.bind (cond (cond y32 y33 false) (law02_is m [117, 114, 108, 40, 32, 120, 32, 41] (TToken.mk 7 [120] 0 [] false)) (some default)) fun y34 =>
  Option.bind (cond (cond (cond y32 y33 false) y34 false) (law02_is m [92, 54, 49, 32, 98] (TToken.mk 1 [97, 98] 0 [] false)) (some default)) fun y35 =>
  lt (cond (cond (cond y32 y33 false) y34 false) y35 false) fun x36 =>
  some x36)
def law02_comments_L2 (m : Nat) (s : Str) : Nat → Int → Option (Int)
  | 0, _ => none
  | kk + 1, v20 =>
    chk ((decide (v20 < (ln s))) = true → 0 ≤ v20 ∧ v20 < ln s) <|
    chk ((cond ((bat s v20) != 42) true ((w64 (v20 + 1)) == (ln s))) = false → (decide (v20 < (ln s))) = true → 0 ≤ (w64 (v20 + 1)) ∧ (w64 (v20 + 1)) < ln s) <|
    lt (cond (decide (v20 < (ln s))) (cond (cond ((bat s v20) != 42) true ((w64 (v20 + 1)) == (ln s))) true ((bat s (w64 (v20 + 1))) != 47)) false) fun x23 =>
    cond x23 (
    law02_comments_L2 m s kk (w64 (v20 + 1))) (
    some v20)
def law02_comments_L1 (m : Nat) (s : Str) (last : Bool) : Nat → Int → Option (Sum (Bool) (Unit))
  | 0, _ => none
  | kk + 1, v6 =>
    cond (decide (v6 < (ln s))) (
    chk ((decide ((w64 ((ln s) - v6)) < 2)) = false → 0 ≤ v6 ∧ v6 < ln s) <|
    lt (cond (decide ((w64 ((ln s) - v6)) < 2)) true ((bat s v6) != 47)) fun x10 =>
    chk (x10 = false → 0 ≤ (w64 (v6 + 1)) ∧ (w64 (v6 + 1)) < ln s) <|
    lt (cond x10 true ((bat s (w64 (v6 + 1))) != 42)) fun x12 =>
    cond x12 (
    some (.inl false)) (
    Option.bind (
    law02_comments_L2 m s m (w64 (v6 + 2))) fun (z19 : Int) =>
    cond (z19 == (ln s)) (
    some (.inl last)) (
    law02_comments_L1 m s last kk (w64 (z19 + 2))))) (
    some (.inr ()))
def law02_comments (m : Nat) (s : Str) (last : Bool) : Option (Bool) :=
  Option.bind (
  law02_comments_L1 m s last m 0) fun (z3 : Sum (Bool) (Unit)) => sumK z3 fun s_z3 =>
  some true
def law02_TokenCovers_L1 (m : Nat) (y8 : Str × Int) (y22 : (List TA2_int) × Int) : Nat → Int → Int → Option (Sum (Bool) (Int))
  | 0, _, _ => none
  | kk + 1, v45, v46 =>
    cond (decide (v46 < (ln y22.1))) (
    chk (0 ≤ v46 ∧ v46 < ln y22.1) <|
    lt (cond (decide (((gi y22.1 v46).e0) < v45)) true (decide (((gi y22.1 v46).e1) ≤ ((gi y22.1 v46).e0)))) fun x50 =>
    lt (cond x50 true (decide ((ln y8.1) < ((gi y22.1 v46).e1)))) fun x51 =>
    chk (x51 = false → 0 ≤ v45 ∧ v45 ≤ ((gi y22.1 v46).e0) ∧ ((gi y22.1 v46).e0) ≤ ln y8.1) <|
    Option.bind (cond x51 (some default) (law02_comments m (sub y8.1 v45 ((gi y22.1 v46).e0)) false)) fun y53 =>
    cond (cond x51 true (!y53)) (
    some (.inl false)) (
    law02_TokenCovers_L1 m y8 y22 kk ((gi y22.1 v46).e1) (w64 (v46 + 1)))) (
    some (.inr v45))
def law02_TokenCovers (m : Nat) (s : Str) : Option (Bool) :=
  cond (decide (500 < (ln s))) (
  Option.bind (law02_alive m) fun y5 =>
  some y5) (
  lt (cleanF s) fun y8 =>
  Option.bind (token_Tokens m s) fun y13 =>
  Option.bind (token_Spans m s) fun y22 =>
  lt (cond (cond (y8.2 != 0) true (y13.2 != y22.2)) true (cond (y13.2 != 0) (y13.2 != 4) false)) fun x29 =>
  cond (cond x29 true ((ln y13.1) != (ln y22.1))) (
  some false) (
  cond (y13.2 != 0) (
  Option.bind (cond (decide (1500 < (ln y8.1))) (law02_alive m) (some default)) fun y36 =>
  lt (cond (decide (1500 < (ln y8.1))) y36 false) fun x37 =>
  some x37) (
  Option.bind (
  law02_TokenCovers_L1 m y8 y22 m 0 0) fun (z42 : Sum (Bool) (Int)) => sumK z42 fun s_z42 =>
  chk (0 ≤ s_z42 ∧ s_z42 ≤ ln y8.1) <|
  Option.bind (law02_comments m (sub y8.1 s_z42 (ln y8.1)) true) fun y66 =>
  Option.bind (cond y66 (law02_alive m) (some default)) fun y67 =>
  some (cond y66 y67 false))))
def law02_TokenRest (m : Nat) (s : Str) (at_ : Int) : Option (Bool) :=
  cond (decide (500 < (ln s))) (
  Option.bind (law02_alive m) fun y5 =>
  some y5) (
  lt (cleanF s) fun y8 =>
  Option.bind (token_Tokens m s) fun y13 =>
  Option.bind (token_Spans m s) fun y22 =>
  lt (cond (cond (y8.2 != 0) true (y13.2 != 0)) true (y22.2 != 0)) fun x29 =>
  cond (cond x29 true ((ln y13.1) != (ln y22.1))) (
  some (cond (y13.2 == 4) (y22.2 == y13.2) false)) (
  lt (cond (decide (at_ < 0)) true (decide ((ln y13.1) ≤ at_))) fun x34 =>
  cond x34 (
  Option.bind (law02_alive m) fun y37 =>
  some y37) (
  chk (0 ≤ at_ ∧ at_ < ln y22.1) <|
  lt (cond (decide (((gi y22.1 at_).e1) < 0)) true (decide ((ln y8.1) < ((gi y22.1 at_).e1)))) fun x41 =>
  cond x41 (
  some false) (
  chk (0 ≤ ((gi y22.1 at_).e1) ∧ ((gi y22.1 at_).e1) ≤ ln y8.1) <|
  Option.bind (token_Tokens m (sub y8.1 ((gi y22.1 at_).e1) (ln y8.1))) fun y49 =>
  Option.bind (
  lt (y49.2 == 0) fun x57 =>
  cond x57 (
  chk (0 ≤ (w64 (at_ + 1)) ∧ (w64 (at_ + 1)) ≤ (ln y13.1) ∧ (ln y13.1) ≤ ln y13.1) <|
  lt (subl y13.1 (w64 (at_ + 1)) (ln y13.1)) fun q63 =>
  Option.bind (r02_Same m y49.1 q63) fun y68 =>
  Option.bind (cond y68 (law02_alive m) (some default)) fun y69 =>
  some (cond y68 y69 false)) (
  some false)) fun (z56 : Bool) =>
  some z56))))
def law02_space (c_ : Int) : Bool :=
  lt (cond (cond (c_ == 9) true (c_ == 10)) true (c_ == 32)) fun x3 =>
  x3
def law02_shaped (t_ : TToken) : Option (Bool) :=
  Option.bind (
  cond (t_.Kind == 1) (
  some (t_.Kind == 1)) (
  cond (t_.Kind == 2) (
  some (t_.Kind == 2)) (
  some (t_.Kind == 3)))) fun (z15 : Bool) =>
  cond z15 (
  lt (cond (!(t_.Text == [])) ((t_.Kind == t_.Kind) && ((([] : Str) == []) && ((t_.Num == 0) && ((t_.Unit == []) && ((t_.Flag == false) && true))))) false) fun x28 =>
  some x28) (
  cond (t_.Kind == 4) (
  lt (cond (!(t_.Text == [])) ((t_.Kind == t_.Kind) && ((([] : Str) == []) && ((t_.Num == 0) && ((t_.Unit == []) && ((false == false) && true))))) false) fun x41 =>
  some x41) (
  Option.bind (
  cond (t_.Kind == 5) (
  some (t_.Kind == 5)) (
  some (t_.Kind == 7))) fun (z44 : Bool) =>
  cond z44 (
  lt ((t_.Kind == t_.Kind) && ((([] : Str) == []) && ((t_.Num == 0) && ((t_.Unit == []) && ((t_.Flag == false) && true))))) fun x54 =>
  some x54) (
  cond (t_.Kind == 9) (
  chk (((ln t_.Text) == 1) = true → 0 ≤ (0 : Int) ∧ (0 : Int) < ln t_.Text) <|
  lt (cond ((ln t_.Text) == 1) (!(law02_space (bat t_.Text 0))) false) fun x64 =>
  lt (cond x64 ((t_.Kind == t_.Kind) && ((([] : Str) == []) && ((t_.Num == 0) && ((t_.Unit == []) && ((t_.Flag == false) && true))))) false) fun x65 =>
  chk (x65 = true → 0 ≤ (0 : Int) ∧ (0 : Int) < ln t_.Text) <|
  chk ((cond x65 ((bat t_.Text 0) != 34) false) = true → 0 ≤ (0 : Int) ∧ (0 : Int) < ln t_.Text) <|
  lt (cond (cond x65 ((bat t_.Text 0) != 34) false) ((bat t_.Text 0) != 39) false) fun x68 =>
  chk (x68 = true → 0 ≤ (0 : Int) ∧ (0 : Int) < ln t_.Text) <|
  chk ((decide ((bat t_.Text 0) < 48)) = false → x68 = true → 0 ≤ (0 : Int) ∧ (0 : Int) < ln t_.Text) <|
  lt (cond x68 (cond (decide ((bat t_.Text 0) < 48)) true (decide (57 < (bat t_.Text 0)))) false) fun x71 =>
  chk (x71 = true → 0 ≤ (0 : Int) ∧ (0 : Int) < ln t_.Text) <|
  lt (cond x71 (decide ((bat t_.Text 0) < 128)) false) fun x73 =>
  some x73) (
  Option.bind (
  cond (t_.Kind == 10) (
  some (t_.Kind == 10)) (
  cond (t_.Kind == 11) (
  some (t_.Kind == 11)) (
  some (t_.Kind == 12)))) fun (z76 : Bool) =>
  cond z76 (
  lt (cond (decide ((-1000000000000) ≤ t_.Num)) (decide (t_.Num ≤ 1000000000000)) false) fun x97 =>
  lt (cond x97 (cond (cond (!t_.Flag) true ((Int.tmod t_.Num 1000) == 0)) true (t_.Num == 1000000000000)) false) fun x98 =>
  lt (cond x98 ((!(t_.Unit == [])) == (t_.Kind == 12)) false) fun x101 =>
  lt (cond x101 (cond (t_.Kind != 11) true (!t_.Flag)) false) fun x102 =>
  lt (cond x102 ((t_.Kind == t_.Kind) && ((t_.Text == []) && (((0 : Int) == 0) && ((([] : Str) == []) && ((false == false) && true))))) false) fun x103 =>
  some x103) (
  lt (cond (decide (1 ≤ t_.Kind)) (decide (t_.Kind ≤ 24)) false) fun x106 =>
  lt (cond x106 ((t_.Kind == t_.Kind) && ((t_.Text == []) && ((t_.Num == 0) && ((t_.Unit == []) && ((t_.Flag == false) && true))))) false) fun x107 =>
  some x107)))))
def law02_TokenShape_L1 (m : Nat) (y10 : (List TToken) × Int) (y19 : (List TA2_int) × Int) : Nat → Int → Option (Sum (Bool) (Unit))
  | 0, _ => none
  | kk + 1, v34 =>
    cond (decide (v34 < (ln y10.1))) (
    chk (0 ≤ v34 ∧ v34 < ln y10.1) <|
    Option.bind (law02_shaped (gi y10.1 v34)) fun y38 =>
    chk ((cond (decide (0 < v34)) (((gi y10.1 v34).Kind) == 13) false) = true → (!y38) = false → 0 ≤ (w64 (v34 - 1)) ∧ (w64 (v34 - 1)) < ln y10.1) <|
    chk ((cond (cond (decide (0 < v34)) (((gi y10.1 v34).Kind) == 13) false) (((gi y10.1 (w64 (v34 - 1))).Kind) == 13) false) = true → (!y38) = false → 0 ≤ v34 ∧ v34 < ln y19.1) <|
    chk ((cond (cond (decide (0 < v34)) (((gi y10.1 v34).Kind) == 13) false) (((gi y10.1 (w64 (v34 - 1))).Kind) == 13) false) = true → (!y38) = false → 0 ≤ (w64 (v34 - 1)) ∧ (w64 (v34 - 1)) < ln y19.1) <|
    lt (cond (!y38) true (cond (cond (cond (decide (0 < v34)) (((gi y10.1 v34).Kind) == 13) false) (((gi y10.1 (w64 (v34 - 1))).Kind) == 13) false) (decide ((w64 (((gi y19.1 v34).e0) - ((gi y19.1 (w64 (v34 - 1))).e1))) < 4)) false)) fun x42 =>
    cond x42 (
    some (.inl false)) (
    law02_TokenShape_L1 m y10 y19 kk (w64 (v34 + 1)))) (
    some (.inr ()))
def law02_TokenShape (m : Nat) (s : Str) : Option (Bool) :=
  cond (decide (500 < (ln s))) (
  Option.bind (law02_alive m) fun y5 =>
  some y5) (
  Option.bind (token_Tokens m s) fun y10 =>
  Option.bind (token_Spans m s) fun y19 =>
  lt (cond (y10.2 != y19.2) true ((ln y10.1) != (ln y19.1))) fun x26 =>
  cond x26 (
  some false) (
  Option.bind (
  law02_TokenShape_L1 m y10 y19 m 0) fun (z31 : Sum (Bool) (Unit)) => sumK z31 fun s_z31 =>
  Option.bind (law02_alive m) fun y52 =>
  some y52))
def law02_digits_r (m : Nat) : Nat → Int → Option (Str)
  | 0, _ => none
  | k + 1, n_ =>
    cond (decide (n_ < 0)) (
    Option.bind ((law02_digits_r m k) (w64 (0 - n_))) fun y5 =>
    chk (ln [45] + ln y5 ≤ 9223372036854775807) <|
    some ([45] ++ y5)) (
    lt (toB ([wu8 (w64 (48 + (Int.tmod n_ 10)))] : List Int)) fun x15 =>
    cond (decide (n_ < 10)) (
    some x15) (
    Option.bind ((law02_digits_r m k) (w64 (Int.tdiv n_ 10))) fun y22 =>
    chk (ln y22 + ln x15 ≤ 9223372036854775807) <|
    some (y22 ++ x15)))
def law02_digits (m : Nat) (n_ : Int) : Option (Str) := law02_digits_r m  m n_
def token_Value (m : Nat) (s : Str) : Option (Int × Bool × Int) :=
  cond (decide (4000 < (ln s))) (
  some (0, false, 28)) (
  Option.bind (token_scanner_number s 0) fun y14 =>
  cond (!y14) (
  some (0, false, 12)) (
  Option.bind (token_scanner_figures m s 0) fun y21 =>
  cond (decide (y21.2 < (ln s))) (
  some (0, false, 12)) (
  Option.bind (token_thousandths m s) fun y30 =>
  some (y30, y21.1, 0))))
def law02_TokenNumbers (m : Nat) (n_ : Int) (zeros : Int) : Option (Bool) :=
  lt (cond (decide (n_ < (-999999))) true (decide (999999 < n_))) fun x3 =>
  lt (cond (cond x3 true (decide (zeros < 0))) true (decide (5 < zeros))) fun x4 =>
  cond x4 (
  Option.bind (law02_alive m) fun y7 =>
  some y7) (
  Option.bind (law02_digits m n_) fun y10 =>
  chk (0 ≤ zeros ∧ zeros ≤ ln [48, 48, 48, 48, 48]) <|
  Option.bind (token_Value m y10) fun y16 =>
  chk (ln y10 + ln [46] ≤ 9223372036854775807) <|
  chk (ln (y10 ++ [46]) + ln (sub [48, 48, 48, 48, 48] 0 zeros) ≤ 9223372036854775807) <|
  lt ((y10 ++ [46]) ++ (sub [48, 48, 48, 48, 48] 0 zeros)) fun x21 =>
  chk (ln x21 + ln [48] ≤ 9223372036854775807) <|
  Option.bind (token_Value m (x21 ++ [48])) fun y23 =>
  chk (ln y10 + ln (sub [48, 48, 48, 48, 48] 0 zeros) ≤ 9223372036854775807) <|
  lt (y10 ++ (sub [48, 48, 48, 48, 48] 0 zeros)) fun x27 =>
  chk (ln x27 + ln [101, 45] ≤ 9223372036854775807) <|
  Option.bind (law02_digits m zeros) fun y29 =>
  chk (ln (x27 ++ [101, 45]) + ln y29 ≤ 9223372036854775807) <|
  Option.bind (token_Value m ((x27 ++ [101, 45]) ++ y29)) fun y31 =>
  Option.bind (token_Tokens m y10) fun y36 =>
  lt (cond (cond (y16.2.2 != 0) true (y23.2.2 != 0)) true (y31.2.2 != 0)) fun x43 =>
  lt (cond (cond x43 true (y36.2 != 0)) true ((ln y36.1) != 1)) fun x44 =>
  cond x44 (
  some false) (
  lt (cond (cond y16.2.1 (!y23.2.1) false) (!y31.2.1) false) fun x49 =>
  lt (cond x49 (y16.1 == (w64 (1000 * n_))) false) fun x50 =>
  lt (cond (cond x50 (y23.1 == y16.1) false) (y31.1 == y16.1) false) fun x51 =>
  chk (x51 = true → 0 ≤ (0 : Int) ∧ (0 : Int) < ln y36.1) <|
  lt (cond x51 ((((gi y36.1 (0 : Int)).Kind) == 10) && ((((gi y36.1 (0 : Int)).Text) == []) && ((((gi y36.1 (0 : Int)).Num) == y16.1) && ((((gi y36.1 (0 : Int)).Unit) == []) && ((((gi y36.1 (0 : Int)).Flag) == true) && true))))) false) fun x53 =>
  Option.bind (cond x53 (law02_alive m) (some default)) fun y54 =>
  some (cond x53 y54 false)))
end Go.Proofs.YtfancfogkhclfaaGreatDoor

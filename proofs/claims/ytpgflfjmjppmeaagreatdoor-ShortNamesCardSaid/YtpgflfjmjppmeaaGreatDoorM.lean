/-
 What the Go functions compute, as Lean functions.
-/
import Derived.Test.YtpgflfjmjppmeaaGreatDoorVP
import Derived.Test.YtpgflfjmjppmeaaGreatDoorX
import Derived.Test.YtpgflfjmjppmeaaGreatDoorMP
import Derived.Test.YtpgflfjmjppmeaaGreatDoorCO
import Derived.Test.YtpgflfjmjppmeaaGreatDoorAF
set_option linter.unusedVariables false
set_option maxRecDepth 20000
set_option maxHeartbeats 4000000
namespace Go.Proofs.YtpgflfjmjppmeaaGreatDoor
open Go.V Go.RowKit
def gl_math_bits_deBruijn32tab : List Int := [0, 1, 28, 2, 29, 14, 24, 3, 30, 22, 20, 15, 25, 17, 4, 8, 31, 27, 13, 23, 21, 19, 16, 7, 26, 12, 18, 6, 11, 5, 10, 9]
def gl_math_bits_deBruijn64tab : List Int := [0, 1, 56, 2, 57, 49, 28, 3, 61, 58, 42, 50, 38, 29, 17, 4, 62, 47, 59, 36, 45, 43, 51, 22, 53, 39, 33, 30, 24, 18, 12, 5, 63, 55, 48, 27, 60, 41, 37, 16, 46, 35, 44, 21, 52, 32, 23, 11, 54, 26, 40, 15, 34, 20, 31, 10, 25, 14, 19, 9, 13, 8, 7, 6]
def gl_strings_asciiSpace : List Int := [0, 0, 0, 0, 0, 0, 0, 0, 0, 1, 1, 1, 1, 1, 0, 0, 0, 0, 0, 0, 0, 0, 0, 0, 0, 0, 0, 0, 0, 0, 0, 0, 1, 0, 0, 0, 0, 0, 0, 0, 0, 0, 0, 0, 0, 0, 0, 0, 0, 0, 0, 0, 0, 0, 0, 0, 0, 0, 0, 0, 0, 0, 0, 0, 0, 0, 0, 0, 0, 0, 0, 0, 0, 0, 0, 0, 0, 0, 0, 0, 0, 0, 0, 0, 0, 0, 0, 0, 0, 0, 0, 0, 0, 0, 0, 0, 0, 0, 0, 0, 0, 0, 0, 0, 0, 0, 0, 0, 0, 0, 0, 0, 0, 0, 0, 0, 0, 0, 0, 0, 0, 0, 0, 0, 0, 0, 0, 0, 0, 0, 0, 0, 0, 0, 0, 0, 0, 0, 0, 0, 0, 0, 0, 0, 0, 0, 0, 0, 0, 0, 0, 0, 0, 0, 0, 0, 0, 0, 0, 0, 0, 0, 0, 0, 0, 0, 0, 0, 0, 0, 0, 0, 0, 0, 0, 0, 0, 0, 0, 0, 0, 0, 0, 0, 0, 0, 0, 0, 0, 0, 0, 0, 0, 0, 0, 0, 0, 0, 0, 0, 0, 0, 0, 0, 0, 0, 0, 0, 0, 0, 0, 0, 0, 0, 0, 0, 0, 0, 0, 0, 0, 0, 0, 0, 0, 0, 0, 0, 0, 0, 0, 0, 0, 0, 0, 0, 0, 0, 0, 0, 0, 0, 0, 0, 0, 0, 0, 0, 0, 0, 0, 0, 0, 0, 0, 0]
def short_Names  : List Str :=
 ([[109, 97, 114, 103, 105, 110], [98, 111, 114, 100, 101, 114], [111, 117, 116, 108, 105, 110, 101], [98, 97, 99, 107, 103, 114, 111, 117, 110, 100]] : List Str)
def r27_SameTexts_L1 (m : Nat) (a_ : List Str) (b_ : List Str) : Nat → Int → Option (Sum (Bool) (Unit))
 | 0, _ => none
 | kk + 1, v10 =>
  cond (decide (v10 < (ln a_))) (
  chk (0 ≤ v10 ∧ v10 < ln a_) <|
  chk (0 ≤ v10 ∧ v10 < ln b_) <|
  cond (!((gi a_ v10) == (gi b_ v10))) (
  some (.inl false)) (
  r27_SameTexts_L1 m a_ b_ kk (w64 (v10 + 1)))) (
  some (.inr ()))
def r27_SameTexts (m : Nat) (a_ : List Str) (b_ : List Str) : Option (Bool) :=
 cond ((ln a_) != (ln b_)) (
 some false) (
 Option.bind (
 r27_SameTexts_L1 m a_ b_ m 0) fun (z7 : Sum (Bool) (Unit)) => sumK z7 fun s_z7 =>
 some true)
def r01_Cleaned_L1 (m : Nat) (s : Str) : Nat → Str → Int → Option (Str)
 | 0, _, _ => none
 | kk + 1, v8, v9 =>
  cond (decide (v9 < (ln s))) (
  Option.bind (
  chk (0 ≤ v9 ∧ v9 < ln s) <|
  lt (cond ((bat s v9) == 10) (decide (0 < v9)) false) fun x16 =>
  chk (x16 = true → 0 ≤ (w64 (v9 - 1)) ∧ (w64 (v9 - 1)) < ln s) <|
  lt (cond x16 ((bat s (w64 (v9 - 1))) == 13) false) fun x18 =>
  cond x18 (
  some v8) (
  Option.bind (
  lt (cond ((bat s v9) == 13) true ((bat s v9) == 12)) fun x22 =>
  cond x22 (
  some 10) (
  some (bat s v9))) fun (z21 : Int) =>
  cond (z21 == 0) (
  chk (ln v8 + ln (toB ([239, 191, 189] : List Int)) ≤ 9223372036854775807) <|
  some (v8 ++ (toB ([239, 191, 189] : List Int)))) (
  chk (ln v8 + ln (toB ([z21] : List Int)) ≤ 9223372036854775807) <|
  some (v8 ++ (toB ([z21] : List Int)))))) fun (z12 : Str) =>
  r01_Cleaned_L1 m s kk z12 (w64 (v9 + 1))) (
  some v8)
def r01_Cleaned (m : Nat) (s : Str) : Option (Str) :=
 Option.bind (
 r01_Cleaned_L1 m s m [] 0) fun (z5 : Str) =>
 some z5
def r01_Clean (m : Nat) (s : Str) : Option (Str × Int) :=
 cond (decide (4000 < (ln s))) (
 some ([], 28)) (
 Option.bind (r01_Cleaned m s) fun y7 =>
 some (y7, 0))
structure TToken where
 Kind : Int
 Text : Str
 Num : Int
 Unit : Str
 Flag : Bool
instance : Inhabited TToken := ⟨⟨default, default, default, default, default⟩⟩
def r02_has (s : Str) (i : Int) (x_ : Str) : Option (Bool) :=
 chk ((decide ((ln x_) ≤ (w64 ((ln s) - i)))) = true → 0 ≤ i ∧ i ≤ (w64 (i + (ln x_))) ∧ (w64 (i + (ln x_))) ≤ ln s) <|
 lt (cond (decide ((ln x_) ≤ (w64 ((ln s) - i)))) ((sub s i (w64 (i + (ln x_)))) == x_) false) fun x4 =>
 some x4
def r02_Past_L2 (m : Nat) (s : Str) : Nat → Int → Option (Int)
 | 0, _ => none
 | kk + 1, v11 =>
  Option.bind (cond (decide (v11 < (ln s))) (r02_has s v11 [42, 47]) (some default)) fun y12 =>
  lt (cond (decide (v11 < (ln s))) (!y12) false) fun x13 =>
  cond x13 (
  r02_Past_L2 m s kk (w64 (v11 + 1))) (
  some v11)
def r02_Past_L1 (m : Nat) (s : Str) : Nat → Int → Option (Int)
 | 0, _ => none
 | kk + 1, v4 =>
  Option.bind (r02_has s v4 [47, 42]) fun y5 =>
  cond y5 (
  Option.bind (
  r02_Past_L2 m s m (w64 (v4 + 2))) fun (z10 : Int) =>
  lt (if w64 (z10 + 2) < ln s then w64 (z10 + 2) else ln s) fun x20 =>
  r02_Past_L1 m s kk x20) (
  some v4)
def r02_Past (m : Nat) (s : Str) (i : Int) : Option (Int) :=
 Option.bind (
 r02_Past_L1 m s m i) fun (z3 : Int) =>
 some z3
def r02_Space (c_ : Int) : Bool :=
 lt (cond (cond (c_ == 10) true (c_ == 9)) true (c_ == 32)) fun x3 =>
 x3
def r02_At (s : Str) (i : Int) : Option (Int) :=
 cond (decide (i < (ln s))) (
 chk (0 ≤ i ∧ i < ln s) <|
 some (bat s i)) (
 some 0)
def r02_spaces_L1 (m : Nat) (s : Str) : Nat → Int → Option (Int)
 | 0, _ => none
 | kk + 1, v4 =>
  Option.bind (r02_At s v4) fun y5 =>
  cond (r02_Space y5) (
  r02_spaces_L1 m s kk (w64 (v4 + 1))) (
  some v4)
def r02_spaces (m : Nat) (s : Str) (i : Int) : Option (Int) :=
 Option.bind (
 r02_spaces_L1 m s m i) fun (z3 : Int) =>
 some z3
def r02_lost  : Str :=
 toB ([239, 191, 189] : List Int)
def r02_Digit (c_ : Int) : Bool :=
 lt (cond (decide (48 ≤ c_)) (decide (c_ ≤ 57)) false) fun x3 =>
 x3
def r01_Small (c_ : Int) : Int :=
 lt (cond (decide (65 ≤ c_)) (decide (c_ ≤ 90)) false) fun x3 =>
 cond x3 (
 wu8 ((wu8 (c_ - 65)) + 97)) (
 c_)
def r02_Hex (c_ : Int) : Int :=
 cond (r02_Digit c_) (
 w64 (wu8 (c_ - 48))) (
 lt (cond (decide (97 ≤ (r01_Small c_))) (decide ((r01_Small c_) ≤ 102)) false) fun x9 =>
 cond x9 (
 lt (w64 ((w64 (wu8 ((r01_Small c_) - 97))) + 10)) fun x12 =>
 x12) (
 (-1)))
def r02_UTF8 (n_ : Int) : Str :=
 lt (cond (n_ == 0) true (cond (decide (55296 ≤ n_)) (decide (n_ ≤ 57343)) false)) fun x3 =>
 cond (cond x3 true (decide (1114111 < n_))) (
 r02_lost) (
 cond (decide (n_ < 128)) (
 toB ([wu8 n_] : List Int)) (
 cond (decide (n_ < 2048)) (
 lt (toB ([wu8 (w64 (192 + (w64 (Int.tdiv n_ 64)))), wu8 (w64 (128 + (Int.tmod n_ 64)))] : List Int)) fun x26 =>
 x26) (
 cond (decide (n_ < 65536)) (
 lt (wu8 (w64 (224 + (w64 (Int.tdiv n_ 4096))))) fun x31 =>
 lt (w64 (128 + (Int.tmod (w64 (Int.tdiv n_ 64)) 64))) fun x32 =>
 lt (toB ([x31, wu8 x32, wu8 (w64 (128 + (Int.tmod n_ 64)))] : List Int)) fun x39 =>
 x39) (
 lt (wu8 (w64 (240 + (w64 (Int.tdiv n_ 262144))))) fun x42 =>
 lt (w64 (128 + (Int.tmod (w64 (Int.tdiv n_ 4096)) 64))) fun x43 =>
 lt (w64 (128 + (Int.tmod (w64 (Int.tdiv n_ 64)) 64))) fun x44 =>
 lt (toB ([x42, wu8 x43, wu8 x44, wu8 (w64 (128 + (Int.tmod n_ 64)))] : List Int)) fun x51 =>
 x51))))
def r02_Escaped_L1 (m : Nat) (s : Str) (i : Int) : Nat → Int → Int → Option (Int × Int)
 | 0, _, _ => none
 | kk + 1, v20, v21 =>
  lt (cond (decide (v21 < (ln s))) (decide (v21 < (w64 ((w64 (i + 1)) + 6)))) false) fun x22 =>
  chk (x22 = true → 0 ≤ v21 ∧ v21 < ln s) <|
  lt (cond x22 (decide (0 ≤ (r02_Hex (bat s v21)))) false) fun x24 =>
  cond x24 (
  chk (0 ≤ v21 ∧ v21 < ln s) <|
  lt (w64 ((w64 (16 * v20)) + (r02_Hex (bat s v21)))) fun x28 =>
  r02_Escaped_L1 m s i kk x28 (w64 (v21 + 1))) (
  some (v20, v21))
def r02_Escaped (m : Nat) (s : Str) (i : Int) : Option (Str × Int) :=
 cond (decide ((ln s) ≤ (w64 (i + 1)))) (
 some (r02_lost, w64 (i + 1))) (
 chk (0 ≤ (w64 (i + 1)) ∧ (w64 (i + 1)) < ln s) <|
 lt (decide ((r02_Hex (bat s (w64 (i + 1)))) < 0)) fun x10 =>
 cond x10 (
 chk (0 ≤ (w64 (i + 1)) ∧ (w64 (i + 1)) ≤ (w64 ((w64 (i + 1)) + 1)) ∧ (w64 ((w64 (i + 1)) + 1)) ≤ ln s) <|
 lt (sub s (w64 (i + 1)) (w64 ((w64 (i + 1)) + 1))) fun x14 =>
 some (x14, w64 ((w64 (i + 1)) + 1))) (
 Option.bind (
 r02_Escaped_L1 m s i m 0 (w64 (i + 1))) fun (z19 : Int × Int) =>
 Option.bind (
 Option.bind (r02_At s z19.2) fun y36 =>
 cond (r02_Space y36) (
 some (w64 (z19.2 + 1))) (
 some z19.2)) fun (z35 : Int) =>
 some ((r02_UTF8 z19.1), z35)))
def r02_quoted_L1 (m : Nat) (s : Str) (i : Int) : Nat → Int → Str → Option (Sum (TToken × Int) (Int × Str))
 | 0, _, _ => none
 | kk + 1, v19, v20 =>
  cond (decide (v19 < (ln s))) (
  chk (0 ≤ v19 ∧ v19 < ln s) <|
  cond ((bat s v19) == (bat s i)) (
  some (.inl ((TToken.mk 5 v20 0 [] false), w64 (v19 + 1)))) (
  cond ((bat s v19) == 10) (
  some (.inl ((TToken.mk 6 [] 0 [] false), v19))) (
  lt (cond ((bat s v19) == 92) ((w64 (v19 + 1)) == (ln s)) false) fun x40 =>
  cond x40 (
  r02_quoted_L1 m s i kk (w64 (v19 + 1)) v20) (
  chk (((bat s v19) == 92) = true → 0 ≤ (w64 (v19 + 1)) ∧ (w64 (v19 + 1)) < ln s) <|
  lt (cond ((bat s v19) == 92) ((bat s (w64 (v19 + 1))) == 10) false) fun x46 =>
  cond x46 (
  r02_quoted_L1 m s i kk (w64 (v19 + 2)) v20) (
  cond ((bat s v19) == 92) (
  Option.bind (r02_Escaped m s v19) fun y53 =>
  chk (ln v20 + ln y53.1 ≤ 9223372036854775807) <|
  r02_quoted_L1 m s i kk y53.2 (v20 ++ y53.1)) (
  chk (0 ≤ v19 ∧ v19 ≤ (w64 (v19 + 1)) ∧ (w64 (v19 + 1)) ≤ ln s) <|
  chk (ln v20 + ln (sub s v19 (w64 (v19 + 1))) ≤ 9223372036854775807) <|
  r02_quoted_L1 m s i kk (w64 (v19 + 1)) (v20 ++ (sub s v19 (w64 (v19 + 1)))))))))) (
  some (.inr (v19, v20)))
def r02_quoted (m : Nat) (s : Str) (i : Int) : Option (TToken × Int) :=
 chk (0 ≤ i ∧ i < ln s) <|
 Option.bind (
 r02_quoted_L1 m s i m (w64 (i + 1)) []) fun (z16 : Sum (TToken × Int) (Int × Str)) => sumK z16 fun s_z16 =>
 some ((TToken.mk 5 s_z16.2 0 [] false), s_z16.1)
def r02_Starts (c_ : Int) : Bool :=
 lt (cond (decide (97 ≤ (r01_Small c_))) (decide ((r01_Small c_) ≤ 122)) false) fun x5 =>
 lt (cond (cond x5 true (c_ == 95)) true (decide (128 ≤ c_))) fun x6 =>
 x6
def r02_Letter (c_ : Int) : Bool :=
 lt (cond (cond (r02_Starts c_) true (r02_Digit c_)) true (c_ == 45)) fun x3 =>
 x3
def r02_Escape (s : Str) (i : Int) : Option (Bool) :=
 Option.bind (r02_At s i) fun y3 =>
 Option.bind (cond (y3 == 92) (r02_At s (w64 (i + 1))) (some default)) fun y4 =>
 some (cond (y3 == 92) (y4 != 10) false)
def r02_Named_L1 (m : Nat) (s : Str) : Nat → Int → Str → Option (Str × Int)
 | 0, _, _ => none
 | kk + 1, v5, v6 =>
  chk ((decide (v5 < (ln s))) = true → 0 ≤ v5 ∧ v5 < ln s) <|
  lt (cond (decide (v5 < (ln s))) (r02_Letter (bat s v5)) false) fun x8 =>
  cond x8 (
  chk (0 ≤ v5 ∧ v5 ≤ (w64 (v5 + 1)) ∧ (w64 (v5 + 1)) ≤ ln s) <|
  chk (ln v6 + ln (sub s v5 (w64 (v5 + 1))) ≤ 9223372036854775807) <|
  r02_Named_L1 m s kk (w64 (v5 + 1)) (v6 ++ (sub s v5 (w64 (v5 + 1))))) (
  Option.bind (cond (decide (v5 < (ln s))) (r02_Escape s v5) (some default)) fun y17 =>
  cond (cond (decide (v5 < (ln s))) y17 false) (
  Option.bind (r02_Escaped m s v5) fun y20 =>
  chk (ln v6 + ln y20.1 ≤ 9223372036854775807) <|
  r02_Named_L1 m s kk y20.2 (v6 ++ y20.1)) (
  some (v6, v5)))
def r02_Named (m : Nat) (s : Str) (i : Int) : Option (Str × Int) :=
 r02_Named_L1 m s m i []
def r02_NameAt (s : Str) (i : Int) : Option (Bool) :=
 Option.bind (r02_At s i) fun y3 =>
 cond (y3 == 45) (
 Option.bind (r02_At s (w64 (i + 1))) fun y6 =>
 Option.bind (cond (r02_Starts y6) (some default) (r02_At s (w64 (i + 1)))) fun y7 =>
 Option.bind (cond (cond (r02_Starts y6) true (y7 == 45)) (some default) (r02_Escape s (w64 (i + 1)))) fun y8 =>
 lt (cond (cond (r02_Starts y6) true (y7 == 45)) true y8) fun x9 =>
 some x9) (
 Option.bind (r02_At s i) fun y12 =>
 Option.bind (cond (r02_Starts y12) (some default) (r02_Escape s i)) fun y13 =>
 some (cond (r02_Starts y12) true y13))
def r02_NumberAt (s : Str) (i : Int) : Option (Bool) :=
 Option.bind (
 Option.bind (r02_At s i) fun y4 =>
 cond (cond (y4 == 43) true (y4 == 45)) (
 some (w64 (i + 1))) (
 some i)) fun (z3 : Int) =>
 Option.bind (
 Option.bind (r02_At s z3) fun y13 =>
 cond (y13 == 46) (
 some (w64 (z3 + 1))) (
 some z3)) fun (z12 : Int) =>
 Option.bind (r02_At s z12) fun y19 =>
 some (r02_Digit y19)
def r02_digits_L1 (m : Nat) (s : Str) : Nat → Int → Option (Int)
 | 0, _ => none
 | kk + 1, v4 =>
  Option.bind (r02_At s v4) fun y5 =>
  cond (r02_Digit y5) (
  r02_digits_L1 m s kk (w64 (v4 + 1))) (
  some v4)
def r02_digits (m : Nat) (s : Str) (i : Int) : Option (Int) :=
 Option.bind (
 r02_digits_L1 m s m i) fun (z3 : Int) =>
 some z3
def r02_NumberEnd (m : Nat) (s : Str) (i : Int) : Option (Int × Bool) :=
 Option.bind (
 Option.bind (r02_At s i) fun y4 =>
 cond (cond (y4 == 43) true (y4 == 45)) (
 some (w64 (i + 1))) (
 some i)) fun (z3 : Int) =>
 Option.bind (r02_digits m s z3) fun y12 =>
 Option.bind (
 Option.bind (r02_At s y12) fun y18 =>
 Option.bind (cond (y18 == 46) (r02_At s (w64 (y12 + 1))) (some default)) fun y19 =>
 cond (cond (y18 == 46) (r02_Digit y19) false) (
 Option.bind (r02_digits m s (w64 (y12 + 1))) fun y24 =>
 some (y24, false)) (
 some (y12, true))) fun (z17 : Int × Bool) =>
 Option.bind (
 Option.bind (r02_At s z17.1) fun y29 =>
 cond (cond (y29 == 101) true (y29 == 69)) (
 Option.bind (
 Option.bind (r02_At s (w64 (z17.1 + 1))) fun y37 =>
 cond (cond (y37 == 43) true (y37 == 45)) (
 some (w64 ((w64 (z17.1 + 1)) + 1))) (
 some (w64 (z17.1 + 1)))) fun (z36 : Int) =>
 Option.bind (r02_At s z36) fun y45 =>
 cond (r02_Digit y45) (
 Option.bind (r02_digits m s z36) fun y50 =>
 some (y50, false)) (
 some (z17.1, z17.2))) (
 some (z17.1, z17.2))) fun (z28 : Int × Bool) =>
 some (z28.1, z28.2)
def r02_Thousandths_L1 (m : Nat) (s : Str) : Nat → Str → Int → Option (Str × Int)
 | 0, _, _ => none
 | kk + 1, v16, v17 =>
  Option.bind (r02_At s v17) fun y18 =>
  cond (r02_Digit y18) (
  chk (0 ≤ v17 ∧ v17 ≤ (w64 (v17 + 1)) ∧ (w64 (v17 + 1)) ≤ ln s) <|
  chk (ln v16 + ln (sub s v17 (w64 (v17 + 1))) ≤ 9223372036854775807) <|
  r02_Thousandths_L1 m s kk (v16 ++ (sub s v17 (w64 (v17 + 1)))) (w64 (v17 + 1))) (
  some (v16, v17))
def r02_Thousandths_L2 (m : Nat) (s : Str) : Nat → Str → Int → Int → Option (Str × Int × Int)
 | 0, _, _, _ => none
 | kk + 1, v35, v36, v37 =>
  Option.bind (r02_At s v37) fun y38 =>
  cond (r02_Digit y38) (
  chk (0 ≤ v37 ∧ v37 ≤ (w64 (v37 + 1)) ∧ (w64 (v37 + 1)) ≤ ln s) <|
  chk (ln v35 + ln (sub s v37 (w64 (v37 + 1))) ≤ 9223372036854775807) <|
  r02_Thousandths_L2 m s kk (v35 ++ (sub s v37 (w64 (v37 + 1)))) (w64 (v36 - 1)) (w64 (v37 + 1))) (
  some (v35, v36, v37))
def r02_Thousandths_L3 (m : Nat) (s : Str) : Nat → Int → Int → Option (Int)
 | 0, _, _ => none
 | kk + 1, v70, v71 =>
  cond (decide (v70 < (ln s))) (
  chk (0 ≤ v70 ∧ v70 < ln s) <|
  lt (w64 ((w64 (10 * v71)) + (w64 (wu8 ((bat s v70) - 48))))) fun x75 =>
  r02_Thousandths_L3 m s kk (w64 (v70 + 1)) (if x75 < 10000 then x75 else 10000)) (
  some v71)
def r02_Thousandths_L4 (m : Nat) (z29 : Str × Int × Int) (z52 : Int) : Nat → Int → Int → Option (Int)
 | 0, _, _ => none
 | kk + 1, v99, v100 =>
  lt (cond (decide (v100 < (w64 ((ln z29.1) + z52)))) (decide (v100 < (ln z29.1))) false) fun x101 =>
  cond x101 (
  chk (0 ≤ v100 ∧ v100 < ln z29.1) <|
  lt (w64 ((w64 (10 * v99)) + (w64 (wu8 ((bat z29.1 v100) - 48))))) fun x105 =>
  lt (if x105 < 1000000000000 then x105 else 1000000000000) fun x106 =>
  r02_Thousandths_L4 m z29 z52 kk x106 (w64 (v100 + 1))) (
  some v99)
def r02_Thousandths_L5 (m : Nat)  : Nat → Int → Int → Option (Int)
 | 0, _, _ => none
 | kk + 1, v114, v115 =>
  lt (cond (decide (0 < v114)) (decide (0 < v115)) false) fun x116 =>
  lt (cond x116 (decide (v115 < 1000000000000)) false) fun x117 =>
  cond x117 (
  lt (if w64 (10 * v115) < 1000000000000 then w64 (10 * v115) else 1000000000000) fun x120 =>
  r02_Thousandths_L5 m  kk (w64 (v114 - 1)) x120) (
  some v115)
def r02_Thousandths (m : Nat) (s : Str) : Option (Int) :=
 chk (0 ≤ (0 : Int) ∧ (0 : Int) < ln s) <|
 Option.bind (
 lt (cond ((bat s 0) == 43) true ((bat s 0) == 45)) fun x9 =>
 cond x9 (
 some 1) (
 some 0)) fun (z8 : Int) =>
 Option.bind (
 r02_Thousandths_L1 m s m [] z8) fun (z15 : Str × Int) =>
 Option.bind (
 Option.bind (r02_At s z15.2) fun y30 =>
 cond (y30 == 46) (
 r02_Thousandths_L2 m s m z15.1 3 (w64 (z15.2 + 1))) (
 some (z15.1, 3, z15.2))) fun (z29 : Str × Int × Int) =>
 Option.bind (
 cond (decide (z29.2.2 < (ln s))) (
 chk (0 ≤ (w64 (z29.2.2 + 1)) ∧ (w64 (z29.2.2 + 1)) < ln s) <|
 Option.bind (
 lt (cond ((bat s (w64 (z29.2.2 + 1))) == 43) true ((bat s (w64 (z29.2.2 + 1))) == 45)) fun x61 =>
 cond x61 (
 some (w64 ((w64 (z29.2.2 + 1)) + 1))) (
 some (w64 (z29.2.2 + 1)))) fun (z60 : Int) =>
 Option.bind (
 r02_Thousandths_L3 m s m z60 0) fun (z69 : Int) =>
 Option.bind (
 cond ((bat s (w64 (z29.2.2 + 1))) == 45) (
 some (w64 (0 - z69))) (
 some z69)) fun (z82 : Int) =>
 some (w64 (z29.2.1 + z82))) (
 some z29.2.1)) fun (z52 : Int) =>
 Option.bind (
 r02_Thousandths_L4 m z29 z52 m 0 0) fun (z96 : Int) =>
 Option.bind (
 r02_Thousandths_L5 m  m z52 z96) fun (z113 : Int) =>
 cond ((bat s 0) == 45) (
 some (w64 (0 - z113))) (
 some z113)
def r02_numeric (m : Nat) (s : Str) (i : Int) : Option (TToken × Int) :=
 Option.bind (r02_NumberEnd m s i) fun y6 =>
 chk (0 ≤ i ∧ i ≤ y6.1 ∧ y6.1 ≤ ln s) <|
 Option.bind (r02_Thousandths m (sub s i y6.1)) fun y10 =>
 Option.bind (
 Option.bind (r02_NameAt s y6.1) fun y19 =>
 cond y19 (
 Option.bind (r02_Named m s y6.1) fun y26 =>
 some (y26.2, 12, y26.1, y6.2)) (
 Option.bind (r02_At s y6.1) fun y33 =>
 cond (y33 == 37) (
 some (w64 (y6.1 + 1), 11, [], false)) (
 some (y6.1, 10, [], y6.2)))) fun (z18 : Int × Int × Str × Bool) =>
 some ((TToken.mk z18.2.1 [] y10 z18.2.2.1 z18.2.2.2), z18.1)
def r01_Lower_L1 (m : Nat) (s : Str) : Nat → Int → (List Int) → Option (List Int)
 | 0, _, _ => none
 | kk + 1, v14, v15 =>
  cond (decide (v14 < (ln (ofB s)))) (
  chk (0 ≤ v14 ∧ v14 < ln (ofB s)) <|
  lt (seti v15 v14 (r01_Small (gi v15 v14))) fun q23 =>
  r01_Lower_L1 m s kk (w64 (v14 + 1)) q23) (
  some v15)
def r01_Lower (m : Nat) (s : Str) : Option (Str) :=
 Option.bind (
 r01_Lower_L1 m s m 0 (ofB s)) fun (z11 : List Int) =>
 some (toB z11)
def r01_Alike (m : Nat) (a_ : Str) (b_ : Str) : Option (Bool) :=
 Option.bind (r01_Lower m a_) fun y3 =>
 Option.bind (r01_Lower m b_) fun y4 =>
 some (y3 == y4)
def r02_bad_L1 (m : Nat) (s : Str) : Nat → Int → Option (Int)
 | 0, _ => none
 | kk + 1, v7 =>
  chk ((decide (v7 < (ln s))) = true → 0 ≤ v7 ∧ v7 < ln s) <|
  lt (cond (decide (v7 < (ln s))) ((bat s v7) != 41) false) fun x9 =>
  cond x9 (
  Option.bind (r02_Escape s v7) fun y12 =>
  cond y12 (
  Option.bind (r02_Escaped m s v7) fun y15 =>
  r02_bad_L1 m s kk y15.2) (
  r02_bad_L1 m s kk (w64 (v7 + 1)))) (
  some v7)
def r02_bad (m : Nat) (s : Str) (i : Int) : Option (TToken × Int) :=
 Option.bind (
 r02_bad_L1 m s m i) fun (z6 : Int) =>
 lt (if w64 (z6 + 1) < ln s then w64 (z6 + 1) else ln s) fun x23 =>
 some ((TToken.mk 8 [] 0 [] false), x23)
def r02_Unprintable (c_ : Int) : Bool :=
 lt (cond (cond (decide (c_ ≤ 8)) true (c_ == 11)) true (cond (decide (14 ≤ c_)) (decide (c_ ≤ 31)) false)) fun x3 =>
 cond x3 true (c_ == 127)
def r02_url_L1 (m : Nat) (s : Str) : Nat → Int → Str → Option (Sum (TToken × Int) (Int × Str))
 | 0, _, _ => none
 | kk + 1, v17, v18 =>
  chk ((decide (v17 < (ln s))) = true → 0 ≤ v17 ∧ v17 < ln s) <|
  lt (cond (decide (v17 < (ln s))) ((bat s v17) != 41) false) fun x20 =>
  cond x20 (
  chk (0 ≤ v17 ∧ v17 < ln s) <|
  cond (r02_Space (bat s v17)) (
  Option.bind (r02_spaces m s v17) fun y28 =>
  chk ((decide (y28 < (ln s))) = true → 0 ≤ y28 ∧ y28 < ln s) <|
  lt (cond (decide (y28 < (ln s))) ((bat s y28) != 41) false) fun x32 =>
  cond x32 (
  Option.bind (r02_bad m s y28) fun y35 =>
  some (.inl (y35.1, y35.2))) (
  r02_url_L1 m s kk y28 v18)) (
  lt (cond ((bat s v17) == 34) true ((bat s v17) == 39)) fun x43 =>
  lt (cond (cond x43 true ((bat s v17) == 40)) true (r02_Unprintable (bat s v17))) fun x44 =>
  Option.bind (cond x44 (some default) (cond ((bat s v17) == 92) (r02_Escape s v17) (some default))) fun y45 =>
  lt (cond x44 true (cond ((bat s v17) == 92) (!y45) false)) fun x46 =>
  cond x46 (
  Option.bind (r02_bad m s v17) fun y49 =>
  some (.inl (y49.1, y49.2))) (
  cond ((bat s v17) == 92) (
  Option.bind (r02_Escaped m s v17) fun y58 =>
  chk (ln v18 + ln y58.1 ≤ 9223372036854775807) <|
  r02_url_L1 m s kk y58.2 (v18 ++ y58.1)) (
  chk (0 ≤ v17 ∧ v17 ≤ (w64 (v17 + 1)) ∧ (w64 (v17 + 1)) ≤ ln s) <|
  chk (ln v18 + ln (sub s v17 (w64 (v17 + 1))) ≤ 9223372036854775807) <|
  r02_url_L1 m s kk (w64 (v17 + 1)) (v18 ++ (sub s v17 (w64 (v17 + 1)))))))) (
  some (.inr (v17, v18)))
def r02_url (m : Nat) (s : Str) (i : Int) : Option (TToken × Int) :=
 Option.bind (
 Option.bind (r02_spaces m s i) fun y14 =>
 r02_url_L1 m s m y14 []) fun (z13 : Sum (TToken × Int) (Int × Str)) => sumK z13 fun s_z13 =>
 lt (if w64 (s_z13.1 + 1) < ln s then w64 (s_z13.1 + 1) else ln s) fun x81 =>
 some ((TToken.mk 7 s_z13.2 0 [] false), x81)
def r02_word (m : Nat) (s : Str) (i : Int) : Option (TToken × Int) :=
 Option.bind (r02_Named m s i) fun y6 =>
 Option.bind (r02_At s y6.2) fun y9 =>
 cond (y9 != 40) (
 some ((TToken.mk 1 y6.1 0 [] false), y6.2)) (
 Option.bind (
 Option.bind (r01_Alike m y6.1 [117, 114, 108]) fun y19 =>
 cond y19 (
 Option.bind (r02_spaces m s (w64 (y6.2 + 1))) fun y22 =>
 Option.bind (r02_At s y22) fun y23 =>
 cond (cond (y23 != 34) (y23 != 39) false) (
 Option.bind (r02_url m s (w64 (y6.2 + 1))) fun y28 =>
 some (.inl (y28.1, y28.2))) (
 some (.inr ()))) (
 some (.inr ()))) fun (z18 : Sum (TToken × Int) (Unit)) => sumK z18 fun s_z18 =>
 some ((TToken.mk 2 y6.1 0 [] false), w64 (y6.2 + 1)))
def r02_mark (c_ : Int) : Int :=
 cond (c_ == 58) (
 16) (
 cond (c_ == 59) (
 17) (
 cond (c_ == 44) (
 18) (
 cond (c_ == 91) (
 19) (
 cond (c_ == 93) (
 20) (
 cond (c_ == 40) (
 21) (
 cond (c_ == 41) (
 22) (
 cond (c_ == 123) (
 23) (
 cond (c_ == 125) (
 24) (
 0)))))))))
def r02_One (m : Nat) (s : Str) (i : Int) : Option (TToken × Int) :=
 chk (0 ≤ i ∧ i < ln s) <|
 cond (r02_Space (bat s i)) (
 Option.bind (r02_spaces m s i) fun y11 =>
 some ((TToken.mk 13 [] 0 [] false), y11)) (
 lt (cond ((bat s i) == 34) true ((bat s i) == 39)) fun x18 =>
 cond x18 (
 Option.bind (r02_quoted m s i) fun y21 =>
 some (y21.1, y21.2)) (
 chk ((decide ((w64 (i + 1)) < (ln s))) = true → ((bat s i) == 35) = true → 0 ≤ (w64 (i + 1)) ∧ (w64 (i + 1)) < ln s) <|
 Option.bind (cond ((bat s i) == 35) (cond (cond (decide ((w64 (i + 1)) < (ln s))) (r02_Letter (bat s (w64 (i + 1)))) false) (some default) (r02_Escape s (w64 (i + 1)))) (some default)) fun y29 =>
 lt (cond ((bat s i) == 35) (cond (cond (decide ((w64 (i + 1)) < (ln s))) (r02_Letter (bat s (w64 (i + 1)))) false) true y29) false) fun x30 =>
 cond x30 (
 Option.bind (r02_Named m s (w64 (i + 1))) fun y33 =>
 Option.bind (r02_NameAt s (w64 (i + 1))) fun y36 =>
 some ((TToken.mk 4 y33.1 0 [] y36), y33.2)) (
 Option.bind (r02_NumberAt s i) fun y43 =>
 cond y43 (
 Option.bind (r02_numeric m s i) fun y46 =>
 some (y46.1, y46.2)) (
 Option.bind (r02_has s i [45, 45, 62]) fun y53 =>
 cond y53 (
 some ((TToken.mk 15 [] 0 [] false), w64 (i + 3))) (
 Option.bind (r02_has s i [60, 33, 45, 45]) fun y62 =>
 cond y62 (
 some ((TToken.mk 14 [] 0 [] false), w64 (i + 4))) (
 Option.bind (cond ((bat s i) == 64) (r02_NameAt s (w64 (i + 1))) (some default)) fun y71 =>
 cond (cond ((bat s i) == 64) y71 false) (
 Option.bind (r02_Named m s (w64 (i + 1))) fun y74 =>
 some ((TToken.mk 3 y74.1 0 [] false), y74.2)) (
 Option.bind (r02_NameAt s i) fun y83 =>
 cond y83 (
 Option.bind (r02_word m s i) fun y86 =>
 some (y86.1, y86.2)) (
 cond ((r02_mark (bat s i)) != 0) (
 some ((TToken.mk (r02_mark (bat s i)) [] 0 [] false), w64 (i + 1))) (
 chk (0 ≤ i ∧ i ≤ (w64 (i + 1)) ∧ (w64 (i + 1)) ≤ ln s) <|
 some ((TToken.mk 9 (sub s i (w64 (i + 1))) 0 [] false), w64 (i + 1)))))))))))
structure TA2_int where
 e0 : Int
 e1 : Int
instance : Inhabited TA2_int := ⟨⟨default, default⟩⟩
def r02_Cut_L1 (m : Nat) (s : Str) : Nat → (List TToken) → (List TA2_int) → Int → Option ((List TToken) × (List TA2_int))
 | 0, _, _, _ => none
 | kk + 1, v13, v15, v17 =>
  cond (decide (v17 < (ln s))) (
  Option.bind (r02_One m s v17) fun y20 =>
  chk (ln v13 + ln ([y20.1] : List TToken) ≤ 1099511627776) <|
  lt (v13 ++ ([y20.1] : List TToken)) fun q37 =>
  chk (ln v15 + ln ([(TA2_int.mk v17 y20.2)] : List TA2_int) ≤ 1099511627776) <|
  lt (v15 ++ ([(TA2_int.mk v17 y20.2)] : List TA2_int)) fun q48 =>
  Option.bind (r02_Past m s y20.2) fun y54 =>
  r02_Cut_L1 m s kk q37 q48 y54) (
  some (v13, v15))
def r02_Cut (m : Nat) (s : Str) : Option ((List TToken) × (List TA2_int)) :=
 Option.bind (
 Option.bind (r02_Past m s 0) fun y8 =>
 r02_Cut_L1 m s m ([] : List TToken) ([] : List TA2_int) y8) fun (z7 : (List TToken) × (List TA2_int)) =>
 some (z7.1, z7.2)
def r02_Tokens (m : Nat) (s : Str) : Option ((List TToken) × Int) :=
 Option.bind (r01_Clean m s) fun y3 =>
 cond (y3.2 != 0) (
 some (([] : List TToken), y3.2)) (
 Option.bind (r02_Cut m y3.1) fun y13 =>
 cond (decide (1500 < (ln y13.1))) (
 some (([] : List TToken), 4)) (
 some (y13.1, 0)))
inductive TValue where
 | mk (Token : TToken) (List_ : List TValue)
def TValue.Token : TValue → TToken
 | .mk x _ => x
def TValue.List_ : TValue → List TValue
 | .mk _ x => x
instance : Inhabited TValue := ⟨.mk default default⟩
def r04_Closer (kind : Int) : Int :=
 cond (kind == 19) (
 20) (
 lt (
 cond (kind == 21) (
 kind == 21) (
 kind == 2)) fun (z9 : Bool) =>
 cond z9 (
 22) (
 cond (kind == 23) (
 24) (
 0)))
def r04_values_L1 (m : Nat) (l_ : List TToken) (closer : Int) (left : Int) (rec_r04_values : (List TToken) → Int → Int → Int → Option ((List TValue) × Int)) : Nat → Int → (List TValue) → Option (Sum ((List TValue) × Int) (Int × (List TValue)))
 | 0, _, _ => none
 | kk + 1, v7, v8 =>
  chk ((closer == 0) = false → (decide (v7 < (ln l_))) = true → 0 ≤ v7 ∧ v7 < ln l_) <|
  lt (cond (decide (v7 < (ln l_))) (cond (closer == 0) true (((gi l_ v7).Kind) != closer)) false) fun x11 =>
  cond x11 (
  chk (0 ≤ v7 ∧ v7 < ln l_) <|
  Option.bind (
  cond ((r04_Closer ((gi l_ v7).Kind)) != 0) (
  cond (left == 0) (
  some (.inl (.inl (([] : List TValue), (-1))))) (
  Option.bind (rec_r04_values l_ (w64 (v7 + 1)) (r04_Closer ((gi l_ v7).Kind)) (w64 (left - 1))) fun y36 =>
  cond (decide (y36.2 < 0)) (
  some (.inl (.inl (([] : List TValue), (-1))))) (
  some (.inr (y36.2, y36.1))))) (
  some (.inr (w64 (v7 + 1), ([] : List TValue))))) fun (z24 : Sum (Sum ((List TValue) × Int) (Int × (List TValue))) (Int × (List TValue))) => sumK z24 fun s_z24 =>
  chk (ln v8 + ln ([(TValue.mk (gi l_ v7) s_z24.2)] : List TValue) ≤ 1099511627776) <|
  lt (v8 ++ ([(TValue.mk (gi l_ v7) s_z24.2)] : List TValue)) fun q65 =>
  r04_values_L1 m l_ closer left rec_r04_values kk s_z24.1 q65) (
  some (.inr (v7, v8)))
def r04_values_r (m : Nat) : Nat → (List TToken) → Int → Int → Int → Option ((List TValue) × Int)
 | 0, _, _, _, _ => none
 | k + 1, l_, i, closer, left =>
  Option.bind (
  r04_values_L1 m l_ closer left (r04_values_r m k) m i ([] : List TValue)) fun (z5 : Sum ((List TValue) × Int) (Int × (List TValue))) => sumK z5 fun s_z5 =>
  lt (if w64 (s_z5.1 + 1) < ln l_ then w64 (s_z5.1 + 1) else ln l_) fun x76 =>
  some (s_z5.2, x76)
def r04_values (m : Nat) (l_ : List TToken) (i : Int) (closer : Int) (left : Int) : Option ((List TValue) × Int) := r04_values_r m  m l_ i closer left
def r04_Parsed (m : Nat) (l_ : List TToken) : Option ((List TValue) × Bool) :=
 Option.bind (r04_values m l_ 0 0 16) fun y5 =>
 some (y5.1, decide (0 ≤ y5.2))
def r04_Tokens_L1 (m : Nat) (v_ : List TValue) (rec_r04_Tokens : (List TValue) → Option (List TToken)) : Nat → (List TToken) → Int → Option (List TToken)
 | 0, _, _ => none
 | kk + 1, v9, v11 =>
  cond (decide (v11 < (ln v_))) (
  Option.bind (
  chk (0 ≤ v11 ∧ v11 < ln v_) <|
  chk (ln v9 + ln ([(gi v_ v11).Token] : List TToken) ≤ 1099511627776) <|
  lt (v9 ++ ([(gi v_ v11).Token] : List TToken)) fun q23 =>
  lt ((r04_Closer ((gi v_ v11).Token.Kind)) != 0) fun x31 =>
  cond x31 (
  Option.bind (rec_r04_Tokens ((gi v_ v11).List_)) fun y37 =>
  chk (ln q23 + ln y37 ≤ 1099511627776) <|
  lt (q23 ++ y37) fun q43 =>
  chk (ln q43 + ln ([(TToken.mk (r04_Closer ((gi v_ v11).Token.Kind)) [] 0 [] false)] : List TToken) ≤ 1099511627776) <|
  lt (q43 ++ ([(TToken.mk (r04_Closer ((gi v_ v11).Token.Kind)) [] 0 [] false)] : List TToken)) fun q56 =>
  some q56) (
  some q23)) fun (z14 : List TToken) =>
  r04_Tokens_L1 m v_ rec_r04_Tokens kk z14 (w64 (v11 + 1))) (
  some v9)
def r04_Tokens_r (m : Nat) : Nat → (List TValue) → Option (List TToken)
 | 0, _ => none
 | k + 1, v_ =>
  Option.bind (
  r04_Tokens_L1 m v_ (r04_Tokens_r m k) m ([] : List TToken) 0) fun (z5 : List TToken) =>
  some z5
def r04_Tokens (m : Nat) (v_ : List TValue) : Option (List TToken) := r04_Tokens_r m  m v_
def r04_Parse (m : Nat) (l_ : List TToken) : Option ((List TValue) × Int) :=
 cond (decide (1500 < (ln l_))) (
 some (([] : List TValue), 4)) (
 Option.bind (r04_Parsed m l_) fun y10 =>
 cond (!y10.2) (
 some (([] : List TValue), 20)) (
 Option.bind (r04_Tokens m y10.1) fun y24 =>
 cond (decide (1500 < (ln y24))) (
 some (([] : List TValue), 4)) (
 some (y10.1, 0))))
def r04_Of (m : Nat) (s : Str) : Option (List TValue) :=
 Option.bind (r02_Tokens m s) fun y5 =>
 Option.bind (r04_Parse m y5.1) fun y14 =>
 some y14.1
structure TDecl where
 Name : Str
 Value : List TValue
 Important : Bool
instance : Inhabited TDecl := ⟨⟨default, default, default⟩⟩
def law27_decl (m : Nat) (name_ : Str) (s : Str) : Option (TDecl) :=
 Option.bind (r04_Of m s) fun y6 =>
 some (TDecl.mk name_ y6 false)
def nest_closer (kind : Int) : Int :=
 cond (kind == 2) (
 22) (
 lt (
 cond (kind == 19) (
 kind == 19) (
 cond (kind == 21) (
 kind == 21) (
 kind == 23))) fun (z9 : Bool) =>
 cond z9 (
 wu8 (kind + 1)) (
 0))
structure Tnest_found where
 depth : Int
 tokens : Int
 bad : Bool
instance : Inhabited Tnest_found := ⟨⟨default, default, default⟩⟩
def nest_look_L1 (m : Nat) (v_ : List TValue) (closes : Int) (rec_nest_look : (List TValue) → Int → Option (Tnest_found)) : Nat → Int → Int → Int → Bool → Option (Int × Int × Bool)
 | 0, _, _, _, _ => none
 | kk + 1, v10, v11, v12, v13 =>
  cond (decide (v10 < (ln v_))) (
  Option.bind (
  chk (0 ≤ v10 ∧ v10 < ln v_) <|
  Option.bind (
  lt (cond (closes != 0) (((gi v_ v10).Token.Kind) == closes) false) fun x32 =>
  lt (cond x32 true (cond ((nest_closer ((gi v_ v10).Token.Kind)) == 0) (decide (0 < (ln ((gi v_ v10).List_)))) false)) fun x33 =>
  cond x33 (
  some true) (
  some v13)) fun (z31 : Bool) =>
  lt ((nest_closer ((gi v_ v10).Token.Kind)) == 0) fun x41 =>
  cond x41 (
  some (w64 (v12 + 1), z31, v11)) (
  Option.bind (rec_nest_look ((gi v_ v10).List_) (nest_closer ((gi v_ v10).Token.Kind))) fun y44 =>
  lt (if v11 < w64 (y44.depth + 1) then w64 (y44.depth + 1) else v11) fun x52 =>
  lt (w64 ((w64 ((w64 (v12 + 1)) + y44.tokens)) + 1)) fun x53 =>
  some (x53, cond z31 true y44.bad, x52))) fun (z16 : Int × Bool × Int) =>
  nest_look_L1 m v_ closes rec_nest_look kk (w64 (v10 + 1)) z16.2.2 z16.1 z16.2.1) (
  some (v11, v12, v13))
def nest_look_r (m : Nat) : Nat → (List TValue) → Int → Option (Tnest_found)
 | 0, _, _ => none
 | k + 1, v_, closes =>
  Option.bind (
  nest_look_L1 m v_ closes (nest_look_r m k) m 0 0 0 false) fun (z7 : Int × Int × Bool) =>
  some (Tnest_found.mk z7.1 z7.2.1 z7.2.2)
def nest_look (m : Nat) (v_ : List TValue) (closes : Int) : Option (Tnest_found) := nest_look_r m  m v_ closes
def nest_Check (m : Nat) (v_ : List TValue) : Option (Int) :=
 Option.bind (nest_look m v_ 0) fun y3 =>
 cond (decide (16 < y3.depth)) (
 some 20) (
 cond (decide (1500 < y3.tokens)) (
 some 4) (
 cond y3.bad (
 some 8) (
 some 0)))
structure TLong where
 Name : Str
 Value : List TValue
 Whole : Str
instance : Inhabited TLong := ⟨⟨default, default, default⟩⟩
def slices_Index_string_string_L1 (m : Nat) (s : List Str) (v_ : Str) : Nat → Int → Option (Sum (Int) (Unit))
 | 0, _ => none
 | kk + 1, v6 =>
  cond (decide (v6 < (ln s))) (
  chk (0 ≤ v6 ∧ v6 < ln s) <|
  cond (v_ == (gi s v6)) (
  some (.inl v6)) (
  slices_Index_string_string_L1 m s v_ kk (w64 (v6 + 1)))) (
  some (.inr ()))
def slices_Index_string_string (m : Nat) (s : List Str) (v_ : Str) : Option (Int) :=
 Option.bind (
 slices_Index_string_string_L1 m s v_ m 0) fun (z3 : Sum (Int) (Unit)) => sumK z3 fun s_z3 =>
 some (-1)
def slices_Contains_string_string (m : Nat) (s : List Str) (v_ : Str) : Option (Bool) :=
 Option.bind (slices_Index_string_string m s v_) fun y3 =>
 some (decide (0 ≤ y3))
def short_of_L1 (m : Nat) (name_ : Str) : Nat → (List Str) → Int → Option (List Str)
 | 0, _, _ => none
 | kk + 1, v36, v38 =>
  cond (decide (v38 < 4)) (
  chk (0 ≤ v38 ∧ v38 < ln ([[116, 111, 112], [114, 105, 103, 104, 116], [98, 111, 116, 116, 111, 109], [108, 101, 102, 116]] : List Str)) <|
  lt ((gi ([[116, 111, 112], [114, 105, 103, 104, 116], [98, 111, 116, 116, 111, 109], [108, 101, 102, 116]] : List Str) v38)) fun x42 =>
  chk (ln name_ + ln [45] ≤ 9223372036854775807) <|
  chk (ln (name_ ++ [45]) + ln x42 ≤ 9223372036854775807) <|
  chk (ln v36 + ln ([(name_ ++ [45]) ++ x42] : List Str) ≤ 1099511627776) <|
  lt (v36 ++ ([(name_ ++ [45]) ++ x42] : List Str)) fun q54 =>
  short_of_L1 m name_ kk q54 (w64 (v38 + 1))) (
  some v36)
def short_of (m : Nat) (name_ : Str) : Option (List Str) :=
 lt (short_Names) fun y3 =>
 Option.bind (slices_Contains_string_string 64 y3 name_) fun y8 =>
 cond (!y8) (
 some ([] : List Str)) (
 lt (!(name_ == [109, 97, 114, 103, 105, 110])) fun x14 =>
 cond x14 (
 chk (ln name_ + ln [45, 99, 111, 108, 111, 114] ≤ 9223372036854775807) <|
 some ([name_ ++ [45, 99, 111, 108, 111, 114]] : List Str)) (
 Option.bind (
 short_of_L1 m name_ m ([] : List Str) 0) fun (z28 : List Str) =>
 some z28))
def stringslite_HasPrefix (s : Str) (prefix_ : Str) : Option (Bool) :=
 chk ((decide ((ln prefix_) ≤ (ln s))) = true → 0 ≤ (ln prefix_) ∧ (ln prefix_) ≤ ln s) <|
 lt (cond (decide ((ln prefix_) ≤ (ln s))) ((sub s 0 (ln prefix_)) == prefix_) false) fun x4 =>
 some x4
def strings_HasPrefix (s : Str) (prefix_ : Str) : Option (Bool) :=
 Option.bind (stringslite_HasPrefix s prefix_) fun y3 =>
 some y3
def props_Custom (name_ : Str) : Option (Bool) :=
 Option.bind (strings_HasPrefix name_ [45, 45]) fun y3 =>
 lt (cond (cond y3 (decide (2 < (ln name_))) false) (decide ((ln name_) ≤ 64)) false) fun x4 =>
 some x4
structure TColor where
 Red : Int
 Green : Int
 Blue : Int
 Alpha : Int
instance : Inhabited TColor := ⟨⟨default, default, default, default⟩⟩
structure TVal where
 Kind : Int
 Word : Str
 Num : Int
 Color : TColor
instance : Inhabited TVal := ⟨⟨default, default, default, default⟩⟩
def props_word (s : Str) : TVal :=
 (TVal.mk 1 s 0 (TColor.mk 0 0 0 0))
structure TProp where
 Name : Str
 Inherited : Bool
 Initial : TVal
 Words : List Str
 Kinds : List Int
 Least : Bool
instance : Inhabited TProp := ⟨⟨default, default, default, default, default, default⟩⟩
def props_color (name_ : Str) (inherited : Bool) (first : TVal) : TProp :=
 (TProp.mk name_ inherited first ([] : List Str) ([7, 8] : List Int) false)
structure Tstrings_span where
 start : Int
 end_ : Int
instance : Inhabited Tstrings_span := ⟨⟨default, default⟩⟩
def strings_Fields_L1 (m : Nat) (s : Str) : Nat → Int → Int → Int → Int → Option (Int × Int)
 | 0, _, _, _, _ => none
 | kk + 1, v12, v13, v14, v15 =>
  cond (decide (v15 < (ln s))) (
  chk (0 ≤ v15 ∧ v15 < ln s) <|
  chk (0 ≤ (bat s v15) ∧ (bat s v15) < (256 : Int)) <|
  lt (w64 (gi gl_strings_asciiSpace (bat s v15))) fun x24 =>
  lt (ibit .and .i64 v13 (ibit .xor .i64 (-1) x24)) fun x27 =>
  strings_Fields_L1 m s kk (w64 (v12 + x27)) x24 (ibit .or .u8 v14 (bat s v15)) (w64 (v15 + 1))) (
  some (v12, v14))
def strings_Fields_L2 (m : Nat) (s : Str) : Nat → Int → Option (Int)
 | 0, _ => none
 | kk + 1, v55 =>
  chk ((decide (v55 < (ln s))) = true → 0 ≤ v55 ∧ v55 < ln s) <|
  chk ((decide (v55 < (ln s))) = true → 0 ≤ (bat s v55) ∧ (bat s v55) < (256 : Int)) <|
  lt (cond (decide (v55 < (ln s))) ((gi gl_strings_asciiSpace (bat s v55)) != 0) false) fun x58 =>
  cond x58 (
  strings_Fields_L2 m s kk (w64 (v55 + 1))) (
  some v55)
def strings_Fields_L4 (m : Nat) (s : Str) : Nat → Int → Option (Int)
 | 0, _ => none
 | kk + 1, v95 =>
  chk ((decide (v95 < (ln s))) = true → 0 ≤ v95 ∧ v95 < ln s) <|
  chk ((decide (v95 < (ln s))) = true → 0 ≤ (bat s v95) ∧ (bat s v95) < (256 : Int)) <|
  lt (cond (decide (v95 < (ln s))) ((gi gl_strings_asciiSpace (bat s v95)) != 0) false) fun x98 =>
  cond x98 (
  strings_Fields_L4 m s kk (w64 (v95 + 1))) (
  some v95)
def strings_Fields_L3 (m : Nat) (s : Str) : Nat → (List Str) → Int → Int → Int → Option (Int × Int × (List Str))
 | 0, _, _, _, _ => none
 | kk + 1, v68, v70, v71, v72 =>
  cond (decide (v72 < (ln s))) (
  chk (0 ≤ v72 ∧ v72 < ln s) <|
  chk (0 ≤ (bat s v72) ∧ (bat s v72) < (256 : Int)) <|
  lt ((gi gl_strings_asciiSpace (bat s v72)) == 0) fun x77 =>
  cond x77 (
  strings_Fields_L3 m s kk v68 v70 v71 (w64 (v72 + 1))) (
  chk (0 ≤ v71 ∧ v71 ≤ v72 ∧ v72 ≤ ln s) <|
  chk (0 ≤ v70 ∧ v70 < ln v68) <|
  lt (setl v68 v70 (sub s v71 v72)) fun q89 =>
  Option.bind (
  strings_Fields_L4 m s m (w64 (v72 + 1))) fun (z94 : Int) =>
  strings_Fields_L3 m s kk q89 (w64 (v70 + 1)) z94 z94)) (
  some (v70, v71, v68))
def strings_Fields (m : Nat) (s : Str) : Option (List Str) :=
 Option.bind (
 strings_Fields_L1 m s m 0 1 0 0) fun (z9 : Int × Int) =>
 cond (decide (128 ≤ z9.2)) (
 none) (
 chk (0 ≤ z9.1 ∧ z9.1 ≤ z9.1 ∧ z9.1 ≤ 1099511627776) <|
 lt (List.replicate (z9.1).toNat ([] : Str)) fun q41 =>
 Option.bind (
 strings_Fields_L2 m s m 0) fun (z54 : Int) =>
 Option.bind (
 strings_Fields_L3 m s m q41 0 z54 z54) fun (z67 : Int × Int × (List Str)) =>
 Option.bind (
 cond (decide (z67.2.1 < (ln s))) (
 chk (0 ≤ z67.2.1 ∧ z67.2.1 ≤ ln s) <|
 chk (0 ≤ z67.1 ∧ z67.1 < ln z67.2.2) <|
 lt (setl z67.2.2 z67.1 (sub s z67.2.1 (ln s))) fun q122 =>
 some q122) (
 some z67.2.2)) fun (z112 : List Str) =>
 some z112)
def props_words (m : Nat) (name_ : Str) (inherited : Bool) (first : Str) (all_ : Str) : Option (TProp) :=
 lt (props_word first) fun y4 =>
 Option.bind (strings_Fields m all_) fun y7 =>
 some (TProp.mk name_ inherited y4 y7 ([] : List Int) false)
def props_length (m : Nat) (name_ : Str) (inherited : Bool) (first : TVal) (all_ : Str) (least : Bool) (more : List Int) : Option (TProp) :=
 Option.bind (strings_Fields m all_) fun y8 =>
 chk (ln ([2, 3, 4] : List Int) + ln more ≤ 1099511627776) <|
 lt (([2, 3, 4] : List Int) ++ more) fun q14 =>
 some (TProp.mk name_ inherited first y8 q14 least)
def props_Table_L1 (m : Nat)  : Nat → (List TProp) → Int → Option (List TProp)
 | 0, _, _ => none
 | kk + 1, v88, v90 =>
  cond (decide (v90 < 4)) (
  chk (0 ≤ v90 ∧ v90 < ln ([[116, 111, 112], [114, 105, 103, 104, 116], [98, 111, 116, 116, 111, 109], [108, 101, 102, 116]] : List Str)) <|
  lt ((gi ([[116, 111, 112], [114, 105, 103, 104, 116], [98, 111, 116, 116, 111, 109], [108, 101, 102, 116]] : List Str) v90)) fun x94 =>
  chk (ln [109, 97, 114, 103, 105, 110, 45] + ln x94 ≤ 9223372036854775807) <|
  Option.bind (props_length m ([109, 97, 114, 103, 105, 110, 45] ++ x94) false (TVal.mk 2 [] 0 (TColor.mk 0 0 0 0)) [97, 117, 116, 111] false []) fun y101 =>
  chk (ln v88 + ln ([y101] : List TProp) ≤ 1099511627776) <|
  lt (v88 ++ ([y101] : List TProp)) fun q113 =>
  props_Table_L1 m  kk q113 (w64 (v90 + 1))) (
  some v88)
def props_Table (m : Nat)  : Option (List TProp) :=
 lt (props_word [97, 117, 116, 111]) fun y3 =>
 lt (props_color [99, 111, 108, 111, 114] true (TVal.mk 7 [] 0 (TColor.mk 0 0 0 255))) fun y17 =>
 lt (props_color [98, 97, 99, 107, 103, 114, 111, 117, 110, 100, 45, 99, 111, 108, 111, 114] false (TVal.mk 7 [] 0 (TColor.mk 0 0 0 0))) fun y22 =>
 lt (props_color [98, 111, 114, 100, 101, 114, 45, 99, 111, 108, 111, 114] false (TVal.mk 8 [] 0 (TColor.mk 0 0 0 0))) fun y27 =>
 lt (props_color [111, 117, 116, 108, 105, 110, 101, 45, 99, 111, 108, 111, 114] false (TVal.mk 8 [] 0 (TColor.mk 0 0 0 0))) fun y32 =>
 Option.bind (props_words m [100, 105, 115, 112, 108, 97, 121] false [105, 110, 108, 105, 110, 101] [98, 108, 111, 99, 107, 32, 102, 108, 101, 120, 32, 105, 110, 108, 105, 110, 101, 32, 105, 110, 108, 105, 110, 101, 45, 98, 108, 111, 99, 107, 32, 110, 111, 110, 101]) fun y37 =>
 Option.bind (props_words m [118, 105, 115, 105, 98, 105, 108, 105, 116, 121] true [118, 105, 115, 105, 98, 108, 101] [99, 111, 108, 108, 97, 112, 115, 101, 32, 104, 105, 100, 100, 101, 110, 32, 118, 105, 115, 105, 98, 108, 101]) fun y42 =>
 Option.bind (props_length m [119, 105, 100, 116, 104] false y3 [97, 117, 116, 111] true []) fun y48 =>
 Option.bind (props_length m [104, 101, 105, 103, 104, 116] false y3 [97, 117, 116, 111] true []) fun y54 =>
 Option.bind (
 props_Table_L1 m  m ([y17, y22, y27, y32, y37, y42, y48, y54] : List TProp) 0) fun (z81 : List TProp) =>
 Option.bind (props_length m [102, 111, 110, 116, 45, 115, 105, 122, 101] true (TVal.mk 2 [] 16000 (TColor.mk 0 0 0 0)) [] true []) fun y126 =>
 lt (props_word [110, 111, 114, 109, 97, 108]) fun y131 =>
 Option.bind (props_length m [108, 105, 110, 101, 45, 104, 101, 105, 103, 104, 116] true y131 [110, 111, 114, 109, 97, 108] true ([5] : List Int)) fun y134 =>
 Option.bind (props_words m [116, 101, 120, 116, 45, 97, 108, 105, 103, 110] true [108, 101, 102, 116] [99, 101, 110, 116, 101, 114, 32, 106, 117, 115, 116, 105, 102, 121, 32, 108, 101, 102, 116, 32, 114, 105, 103, 104, 116]) fun y139 =>
 chk (ln z81 + ln ([y126, y134, y139, (TProp.mk [111, 112, 97, 99, 105, 116, 121] false (TVal.mk 5 [] 1000 (TColor.mk 0 0 0 0)) [] ([5] : List Int) false), (TProp.mk [122, 45, 105, 110, 100, 101, 120] false y3 ([[97, 117, 116, 111]] : List Str) ([6] : List Int) false), (TProp.mk [111, 114, 100, 101, 114] false (TVal.mk 6 [] 0 (TColor.mk 0 0 0 0)) [] ([6] : List Int) false)] : List TProp) ≤ 1099511627776) <|
 lt (z81 ++ ([y126, y134, y139, (TProp.mk [111, 112, 97, 99, 105, 116, 121] false (TVal.mk 5 [] 1000 (TColor.mk 0 0 0 0)) [] ([5] : List Int) false), (TProp.mk [122, 45, 105, 110, 100, 101, 120] false y3 ([[97, 117, 116, 111]] : List Str) ([6] : List Int) false), (TProp.mk [111, 114, 100, 101, 114] false (TVal.mk 6 [] 0 (TColor.mk 0 0 0 0)) [] ([6] : List Int) false)] : List TProp)) fun q155 =>
 some q155
def props_Find_1 (p : TProp) (u0 : Str) : Bool :=
 p.Name == u0
def slices_IndexFunc_api_Prop_api_Prop_L1 (m : Nat) (s : List TProp) (f_c0 : Str) : Nat → Int → Option (Sum (Int) (Unit))
 | 0, _ => none
 | kk + 1, v6 =>
  cond (decide (v6 < (ln s))) (
  chk (0 ≤ v6 ∧ v6 < ln s) <|
  cond (props_Find_1 (gi s v6) f_c0) (
  some (.inl v6)) (
  slices_IndexFunc_api_Prop_api_Prop_L1 m s f_c0 kk (w64 (v6 + 1)))) (
  some (.inr ()))
def slices_IndexFunc_api_Prop_api_Prop (m : Nat) (s : List TProp) (f_c0 : Str) : Option (Int) :=
 Option.bind (
 slices_IndexFunc_api_Prop_api_Prop_L1 m s f_c0 m 0) fun (z3 : Sum (Int) (Unit)) => sumK z3 fun s_z3 =>
 some (-1)
def props_Find (m : Nat) (name_ : Str) : Option (Int × Int) :=
 Option.bind (props_Table m) fun y6 =>
 Option.bind (slices_IndexFunc_api_Prop_api_Prop m y6 name_) fun y11 =>
 cond (decide (y11 < 0)) (
 some (0, 6)) (
 some (y11, 0))
def props_Inherited (m : Nat) (name_ : Str) : Option (Bool × Int) :=
 Option.bind (props_Custom name_) fun y3 =>
 cond y3 (
 some (true, 0)) (
 Option.bind (props_Find 64 name_) fun y8 =>
 cond (y8.2 != 0) (
 some (false, y8.2)) (
 Option.bind (props_Table m) fun y15 =>
 chk (0 ≤ y8.1 ∧ y8.1 < ln y15) <|
 some ((gi y15 y8.1).Inherited, 0)))
def short_Longs (m : Nat) (name_ : Str) : Option ((List Str) × Int) :=
 Option.bind (short_of 64 name_) fun y5 =>
 cond (decide (0 < (ln y5))) (
 some (y5, 0)) (
 Option.bind (props_Inherited 64 name_) fun y16 =>
 cond (y16.2 != 0) (
 some (([] : List Str), y16.2)) (
 some (([name_] : List Str), 0)))
def short_small_L1 (m : Nat) (s : Str) : Nat → Int → (List Int) → Option (List Int)
 | 0, _, _ => none
 | kk + 1, v14, v15 =>
  cond (decide (v14 < (ln (ofB s)))) (
  Option.bind (
  chk (0 ≤ v14 ∧ v14 < ln (ofB s)) <|
  lt (cond (decide (65 ≤ (gi v15 v14))) (decide ((gi v15 v14) ≤ 90)) false) fun x22 =>
  cond x22 (
  lt (seti v15 v14 (wu8 ((wu8 ((gi v15 v14) + 97)) - 65))) fun q29 =>
  some q29) (
  some v15)) fun (z18 : List Int) =>
  short_small_L1 m s kk (w64 (v14 + 1)) z18) (
  some v15)
def short_small (m : Nat) (s : Str) : Option (Str) :=
 Option.bind (
 short_small_L1 m s m 0 (ofB s)) fun (z11 : List Int) =>
 some (toB z11)
def short_Var_1 (m : Nat) (rec_short_Var : (List TValue) → Option (Bool)) (v_ : TValue) : Option (Bool) :=
 Option.bind (cond (v_.Token.Kind == 2) (short_small m v_.Token.Text) (some default)) fun y6 =>
 lt (cond (v_.Token.Kind == 2) (y6 == [118, 97, 114]) false) fun x7 =>
 Option.bind (cond x7 (some default) (rec_short_Var v_.List_)) fun y8 =>
 some (cond x7 true y8)
def slices_IndexFunc_api_Value_api_Value_L1 (m : Nat) (rec_short_Var : (List TValue) → Option (Bool)) (s : List TValue) : Nat → Int → Option (Sum (Int) (Unit))
 | 0, _ => none
 | kk + 1, v6 =>
  cond (decide (v6 < (ln s))) (
  chk (0 ≤ v6 ∧ v6 < ln s) <|
  Option.bind (short_Var_1 m rec_short_Var (gi s v6)) fun y12 =>
  cond y12 (
  some (.inl v6)) (
  slices_IndexFunc_api_Value_api_Value_L1 m rec_short_Var s kk (w64 (v6 + 1)))) (
  some (.inr ()))
def slices_IndexFunc_api_Value_api_Value (m : Nat) (rec_short_Var : (List TValue) → Option (Bool)) (s : List TValue) : Option (Int) :=
 Option.bind (
 slices_IndexFunc_api_Value_api_Value_L1 m rec_short_Var s m 0) fun (z3 : Sum (Int) (Unit)) => sumK z3 fun s_z3 =>
 some (-1)
def slices_ContainsFunc_api_Value_api_Value (m : Nat) (rec_short_Var : (List TValue) → Option (Bool)) (s : List TValue) : Option (Bool) :=
 Option.bind (slices_IndexFunc_api_Value_api_Value m rec_short_Var s) fun y3 =>
 some (decide (0 ≤ y3))
def short_Var_r (m : Nat) : Nat → (List TValue) → Option (Bool)
 | 0, _ => none
 | k + 1, l_ =>
  Option.bind (slices_ContainsFunc_api_Value_api_Value m (short_Var_r m k) l_) fun y3 =>
  some y3
def short_Var (m : Nat) (l_ : List TValue) : Option (Bool) := short_Var_r m  m l_
def short_Wide (m : Nat) (l_ : List TValue) : Option (Str) :=
 Option.bind (
 chk (((ln l_) == 1) = true → 0 ≤ (0 : Int) ∧ (0 : Int) < ln l_) <|
 lt (cond ((ln l_) == 1) (((gi l_ (0 : Int)).Token.Kind) == 1) false) fun x5 =>
 cond x5 (
 chk (0 ≤ (0 : Int) ∧ (0 : Int) < ln l_) <|
 Option.bind (short_small m ((gi l_ (0 : Int)).Token.Text)) fun y9 =>
 Option.bind (slices_Contains_string_string 64 ([[105, 110, 105, 116, 105, 97, 108], [105, 110, 104, 101, 114, 105, 116], [117, 110, 115, 101, 116], [114, 101, 118, 101, 114, 116]] : List Str) y9) fun y16 =>
 cond y16 (
 some (.inl y9)) (
 some (.inr ()))) (
 some (.inr ()))) fun (z3 : Sum (Str) (Unit)) => sumK z3 fun s_z3 =>
 some []
def parseval_opaque (r_ : Int) (g_ : Int) (b_ : Int) : TColor :=
 (TColor.mk r_ g_ b_ 255)
def parseval_small_L1 (m : Nat) (s : Str) : Nat → Int → (List Int) → Option (List Int)
 | 0, _, _ => none
 | kk + 1, v14, v15 =>
  cond (decide (v14 < (ln (ofB s)))) (
  Option.bind (
  chk (0 ≤ v14 ∧ v14 < ln (ofB s)) <|
  lt (cond (decide (65 ≤ (gi v15 v14))) (decide ((gi v15 v14) ≤ 90)) false) fun x22 =>
  cond x22 (
  lt (seti v15 v14 (wu8 ((wu8 ((gi v15 v14) + 97)) - 65))) fun q29 =>
  some q29) (
  some v15)) fun (z18 : List Int) =>
  parseval_small_L1 m s kk (w64 (v14 + 1)) z18) (
  some v15)
def parseval_small (m : Nat) (s : Str) : Option (Str) :=
 Option.bind (
 parseval_small_L1 m s m 0 (ofB s)) fun (z11 : List Int) =>
 some (toB z11)
def parseval_Named (m : Nat) (name_ : Str) : Option (TColor × Int) :=
 lt (parseval_opaque 0 0 0) fun y9 =>
 lt (parseval_opaque 255 255 255) fun y14 =>
 lt (parseval_opaque 255 0 0) fun y19 =>
 lt (parseval_opaque 0 255 0) fun y24 =>
 lt (parseval_opaque 0 0 255) fun y29 =>
 lt (parseval_opaque 255 255 0) fun y34 =>
 lt (parseval_opaque 128 128 128) fun y39 =>
 Option.bind (parseval_small m name_) fun y48 =>
 lt (x_key ([[98, 108, 97, 99, 107], [119, 104, 105, 116, 101], [114, 101, 100], [108, 105, 109, 101], [98, 108, 117, 101], [121, 101, 108, 108, 111, 119], [103, 114, 97, 121], [116, 114, 97, 110, 115, 112, 97, 114, 101, 110, 116]] : List Str) y48) fun x51 =>
 lt (gi ([y9.Red, y14.Red, y19.Red, y24.Red, y29.Red, y34.Red, y39.Red, 0, 0] : List Int) x51) fun x54 =>
 lt (gi ([y9.Green, y14.Green, y19.Green, y24.Green, y29.Green, y34.Green, y39.Green, 0, 0] : List Int) x51) fun x55 =>
 lt (gi ([y9.Blue, y14.Blue, y19.Blue, y24.Blue, y29.Blue, y34.Blue, y39.Blue, 0, 0] : List Int) x51) fun x56 =>
 lt (gi ([y9.Alpha, y14.Alpha, y19.Alpha, y24.Alpha, y29.Alpha, y34.Alpha, y39.Alpha, 0, 0] : List Int) x51) fun x57 =>
 cond (!(decide (x51 < 8))) (
 some ((TColor.mk 0 0 0 0), 6)) (
 some ((TColor.mk x54 x55 x56 x57), 0))
def strconv_lower (c_ : Int) : Int :=
 ibit .or .u8 c_ 32
def strconv_underscoreOK_L1 (m : Nat) (z7 : Str) (z19 : Int × Int × Bool) : Nat → Int → Int → Option (Sum (Bool) (Int))
 | 0, _, _ => none
 | kk + 1, v37, v38 =>
  cond (decide (v38 < (ln z7))) (
  Option.bind (
  chk (0 ≤ v38 ∧ v38 < ln z7) <|
  lt (cond (decide (48 ≤ (bat z7 v38))) (decide ((bat z7 v38) ≤ 57)) false) fun x43 =>
  lt (cond x43 true (cond (cond z19.2.2 (decide (97 ≤ (strconv_lower (bat z7 v38)))) false) (decide ((strconv_lower (bat z7 v38)) ≤ 102)) false)) fun x44 =>
  cond x44 (
  some (.inr 48)) (
  cond ((bat z7 v38) == 95) (
  cond (v37 != 48) (
  some (.inl (.inl false))) (
  some (.inr 95))) (
  cond (v37 == 95) (
  some (.inl (.inl false))) (
  some (.inr 33))))) fun (z41 : Sum (Sum (Bool) (Int)) (Int)) => sumK z41 fun s_z41 =>
  strconv_underscoreOK_L1 m z7 z19 kk s_z41 (w64 (v38 + 1))) (
  some (.inr v37))
def strconv_underscoreOK (m : Nat) (s : Str) : Option (Bool) :=
 Option.bind (
 chk ((decide (1 ≤ (ln s))) = true → 0 ≤ (0 : Int) ∧ (0 : Int) < ln s) <|
 chk (((bat s 0) == 45) = false → (decide (1 ≤ (ln s))) = true → 0 ≤ (0 : Int) ∧ (0 : Int) < ln s) <|
 lt (cond (decide (1 ≤ (ln s))) (cond ((bat s 0) == 45) true ((bat s 0) == 43)) false) fun x10 =>
 cond x10 (
 chk (0 ≤ (1 : Int) ∧ (1 : Int) ≤ ln s) <|
 some (sub s 1 (ln s))) (
 some s)) fun (z7 : Str) =>
 Option.bind (
 chk ((decide (2 ≤ (ln z7))) = true → 0 ≤ (0 : Int) ∧ (0 : Int) < ln z7) <|
 lt (cond (decide (2 ≤ (ln z7))) ((bat z7 0) == 48) false) fun x21 =>
 chk (x21 = true → 0 ≤ (1 : Int) ∧ (1 : Int) < ln z7) <|
 chk (((strconv_lower (bat z7 1)) == 98) = false → x21 = true → 0 ≤ (1 : Int) ∧ (1 : Int) < ln z7) <|
 chk ((cond ((strconv_lower (bat z7 1)) == 98) true ((strconv_lower (bat z7 1)) == 111)) = false → x21 = true → 0 ≤ (1 : Int) ∧ (1 : Int) < ln z7) <|
 lt (cond x21 (cond (cond ((strconv_lower (bat z7 1)) == 98) true ((strconv_lower (bat z7 1)) == 111)) true ((strconv_lower (bat z7 1)) == 120)) false) fun x25 =>
 cond x25 (
 chk (0 ≤ (1 : Int) ∧ (1 : Int) < ln z7) <|
 some (48, 2, (strconv_lower (bat z7 1)) == 120)) (
 some (94, 0, false))) fun (z19 : Int × Int × Bool) =>
 Option.bind (
 strconv_underscoreOK_L1 m z7 z19 m z19.1 z19.2.1) fun (z36 : Sum (Bool) (Int)) => sumK z36 fun s_z36 =>
 some (s_z36 != 95)
def strconv_ParseUint_2_L1 (m : Nat) (base : Int) (s_z11 : Str × Int) (z74 : Int) (x92 : Int) : Nat → Bool → Int → Int → Option (Sum (Int) (Bool × Int))
 | 0, _, _, _ => none
 | kk + 1, v108, v109, v110 =>
  cond (decide (v110 < (ln (ofB s_z11.1)))) (
  Option.bind (
  chk (0 ≤ v110 ∧ v110 < ln (ofB s_z11.1)) <|
  Option.bind (
  lt (cond ((gi (ofB s_z11.1) v110) == 95) (base == 0) false) fun x120 =>
  cond x120 (
  Option.bind (
  some (.inr (true, v109))) fun r125 => some (.inl r125)) (
  lt (cond (decide (48 ≤ (gi (ofB s_z11.1) v110))) (decide ((gi (ofB s_z11.1) v110) ≤ 57)) false) fun x126 =>
  cond x126 (
  some (.inr (v108, wu8 ((gi (ofB s_z11.1) v110) - 48)))) (
  lt (decide (97 ≤ (strconv_lower (gi (ofB s_z11.1) v110)))) fun x131 =>
  lt (cond x131 (decide ((strconv_lower (gi (ofB s_z11.1) v110)) ≤ 122)) false) fun x132 =>
  cond x132 (
  lt (wu8 ((strconv_lower (gi (ofB s_z11.1) v110)) - 97)) fun x135 =>
  some (.inr (v108, wu8 (x135 + 10)))) (
  none)))) fun (z119 : Sum (Sum (Sum (Int) (Bool × Int)) (Bool × Int)) (Bool × Int)) => sumK z119 fun s_z119 =>
  cond (decide ((wu8 s_z11.2) ≤ s_z119.2)) (
  none) (
  cond (decide (z74 ≤ v109)) (
  none) (
  lt (wu64 ((wu64 (v109 * (wu64 s_z11.2))) + (wu64 s_z119.2))) fun x153 =>
  lt (decide (x153 < (wu64 (v109 * (wu64 s_z11.2))))) fun x156 =>
  lt (cond x156 true (decide ((wu64 (x92 - 1)) < x153))) fun x157 =>
  cond x157 (
  none) (
  some (.inr (s_z119.1, x153)))))) fun (z113 : Sum (Sum (Int) (Bool × Int)) (Bool × Int)) => sumK z113 fun s_z113 =>
  strconv_ParseUint_2_L1 m base s_z11 z74 x92 kk s_z113.1 s_z113.2 (w64 (v110 + 1))) (
  some (.inr (v108, v109)))
def strconv_ParseUint_2 (m : Nat) (s : Str) (base : Int) (bitSize : Int) : Option (Int) :=
 cond (s == []) (
 none) (
 Option.bind (
 lt (cond (decide (2 ≤ base)) (decide (base ≤ 36)) false) fun x12 =>
 cond x12 (
 some (.inr (s, base))) (
 cond (base == 0) (
 chk (0 ≤ (0 : Int) ∧ (0 : Int) < ln s) <|
 cond ((bat s 0) == 48) (
 chk ((decide (3 ≤ (ln s))) = true → 0 ≤ (1 : Int) ∧ (1 : Int) < ln s) <|
 lt (cond (decide (3 ≤ (ln s))) ((strconv_lower (bat s 1)) == 98) false) fun x23 =>
 cond x23 (
 chk (0 ≤ (2 : Int) ∧ (2 : Int) ≤ ln s) <|
 some (.inr (sub s 2 (ln s), 2))) (
 lt (cond (decide (3 ≤ (ln s))) ((strconv_lower (bat s 1)) == 111) false) fun x31 =>
 cond x31 (
 chk (0 ≤ (2 : Int) ∧ (2 : Int) ≤ ln s) <|
 some (.inr (sub s 2 (ln s), 8))) (
 lt (cond (decide (3 ≤ (ln s))) ((strconv_lower (bat s 1)) == 120) false) fun x39 =>
 cond x39 (
 chk (0 ≤ (2 : Int) ∧ (2 : Int) ≤ ln s) <|
 some (.inr (sub s 2 (ln s), 16))) (
 chk (0 ≤ (1 : Int) ∧ (1 : Int) ≤ ln s) <|
 some (.inr (sub s 1 (ln s), 8)))))) (
 some (.inr (s, 10)))) (
 none))) fun (z11 : Sum (Int) (Str × Int)) => sumK z11 fun s_z11 =>
 Option.bind (
 cond (bitSize == 0) (
 some (.inr 64)) (
 lt (cond (decide (bitSize < 0)) true (decide (64 < bitSize))) fun x65 =>
 cond x65 (
 none) (
 some (.inr bitSize)))) fun (z60 : Sum (Int) (Int)) => sumK z60 fun s_z60 =>
 Option.bind (
 cond (s_z11.2 == 10) (
 some 1844674407370955162) (
 cond (s_z11.2 == 16) (
 some 1152921504606846976) (
 chk ((wu64 s_z11.2) ≠ 0) <|
 lt (wu64 (Int.tdiv 18446744073709551615 (wu64 s_z11.2))) fun x86 =>
 some (wu64 (x86 + 1))))) fun (z74 : Int) =>
 chk (0 ≤ (wu64 s_z60)) <|
 lt (wu64 (1 * 2 ^ (Nat.min (wu64 s_z60).toNat 64))) fun x92 =>
 Option.bind (
 strconv_ParseUint_2_L1 m base s_z11 z74 x92 m false 0 0) fun (z99 : Sum (Int) (Bool × Int)) => sumK z99 fun s_z99 =>
 Option.bind (cond s_z99.1 (strconv_underscoreOK m s) (some default)) fun y173 =>
 cond (cond s_z99.1 (!y173) false) (
 none) (
 some s_z99.2))
def strconv_ParseUint (m : Nat) (s : Str) (base : Int) (bitSize : Int) : Option (Int) :=
 Option.bind (strconv_ParseUint_2 m s base bitSize) fun y3 =>
 some y3
def parseval_hash_L1 (m : Nat) (s : Str) : Nat → Str → Int → Option (Str)
 | 0, _, _ => none
 | kk + 1, v16, v17 =>
  cond (decide (v17 < (ln s))) (
  chk (0 ≤ v17 ∧ v17 ≤ (w64 (v17 + 1)) ∧ (w64 (v17 + 1)) ≤ ln s) <|
  chk (ln (sub s v17 (w64 (v17 + 1))) + ln (sub s v17 (w64 (v17 + 1))) ≤ 9223372036854775807) <|
  lt ((sub s v17 (w64 (v17 + 1))) ++ (sub s v17 (w64 (v17 + 1)))) fun x24 =>
  chk (ln v16 + ln x24 ≤ 9223372036854775807) <|
  parseval_hash_L1 m s kk (v16 ++ x24) (w64 (v17 + 1))) (
  some v16)
def parseval_hash_L2 (m : Nat) (z36 : Str) : Nat → Int → Option (Sum (TColor × Bool) (Unit))
 | 0, _ => none
 | kk + 1, v54 =>
  cond (decide (v54 < (ln z36))) (
  chk (0 ≤ v54 ∧ v54 < ln z36) <|
  lt (cond (decide ((bat z36 v54) < 48)) true (decide (57 < (bat z36 v54)))) fun x62 =>
  lt (cond x62 (cond (decide ((bat z36 v54) < 97)) true (decide (102 < (bat z36 v54)))) false) fun x63 =>
  lt (cond x63 (cond (decide ((bat z36 v54) < 65)) true (decide (70 < (bat z36 v54)))) false) fun x64 =>
  cond x64 (
  some (.inl ((TColor.mk 0 0 0 0), false))) (
  parseval_hash_L2 m z36 kk (w64 (v54 + 1)))) (
  some (.inr ()))
def parseval_hash (m : Nat) (s : Str) : Option (TColor × Bool) :=
 Option.bind (
 cond (cond ((ln s) == 3) true ((ln s) == 4)) (
 Option.bind (
 parseval_hash_L1 m s m [] 0) fun (z13 : Str) =>
 some z13) (
 some s)) fun (z6 : Str) =>
 Option.bind (
 cond ((ln z6) == 6) (
 chk (ln z6 + ln [102, 102] ≤ 9223372036854775807) <|
 some (z6 ++ [102, 102])) (
 some z6)) fun (z36 : Str) =>
 cond ((ln z36) != 8) (
 some ((TColor.mk 0 0 0 0), false)) (
 Option.bind (
 parseval_hash_L2 m z36 m 0) fun (z51 : Sum (TColor × Bool) (Unit)) => sumK z51 fun s_z51 =>
 Option.bind (strconv_ParseUint m z36 16 32) fun y78 =>
 some ((TColor.mk (wu8 (Int.fdiv y78 (2 ^ 24))) (wu8 (Int.fdiv y78 (2 ^ 16))) (wu8 (Int.fdiv y78 (2 ^ 8))) (wu8 y78)), true))
def parseval_rgb_1 (t_ : TToken) (u0 : Str) (u1 : List Int) : Option (Str × (List Int)) :=
 cond (t_.Kind == 13) (
 some (u0, u1)) (
 cond (t_.Kind == 10) (
 chk (ln u0 + ln [110] ≤ 9223372036854775807) <|
 chk (ln u1 + ln ([t_.Num] : List Int) ≤ 1099511627776) <|
 lt (u1 ++ ([t_.Num] : List Int)) fun q20 =>
 some (u0 ++ [110], q20)) (
 cond (t_.Kind == 18) (
 chk (ln u0 + ln [44] ≤ 9223372036854775807) <|
 some (u0 ++ [44], u1)) (
 lt (cond (t_.Kind == 9) (t_.Text == [47]) false) fun x33 =>
 cond x33 (
 chk (ln u0 + ln [47] ≤ 9223372036854775807) <|
 some (u0 ++ [47], u1)) (
 chk (ln u0 + ln [120] ≤ 9223372036854775807) <|
 some (u0 ++ [120], u1)))))
def parseval_rgb_2 (i : Int) (u0 : List Int) : Option (Int) :=
 chk (0 ≤ i ∧ i < ln u0) <|
 lt (if w64 (Int.tdiv (gi u0 i) 1000) < 255 then w64 (Int.tdiv (gi u0 i) 1000) else 255) fun x4 =>
 some (wu8 (if 0 < x4 then x4 else 0))
def parseval_rgb_L1 (m : Nat) (l_ : List TValue) : Nat → Int → (List Int) → Str → Option (Str × (List Int))
 | 0, _, _, _ => none
 | kk + 1, v20, v21, v23 =>
  cond (decide (v20 < (ln l_))) (
  chk (0 ≤ v20 ∧ v20 < ln l_) <|
  Option.bind (parseval_rgb_1 ((gi l_ v20).Token) v23 v21) fun y36 =>
  parseval_rgb_L1 m l_ kk (w64 (v20 + 1)) y36.2 y36.1) (
  some (v23, v21))
def parseval_rgb (m : Nat) (l_ : List TValue) : Option (TColor × Bool) :=
 Option.bind (
 parseval_rgb_L1 m l_ m 0 ([] : List Int) []) fun (z16 : Str × (List Int)) =>
 Option.bind (
 Option.bind (
 cond (z16.1 == [110, 110, 110]) (
 some (z16.1 == [110, 110, 110])) (
 some (z16.1 == [110, 44, 110, 44, 110]))) fun (z50 : Bool) =>
 cond z50 (
 chk (ln z16.2 + ln ([1000] : List Int) ≤ 1099511627776) <|
 lt (z16.2 ++ ([1000] : List Int)) fun q63 =>
 some (.inr q63)) (
 Option.bind (
 cond (z16.1 == [110, 110, 110, 47, 110]) (
 some (z16.1 == [110, 110, 110, 47, 110])) (
 lt (z16.1 == [110, 44, 110, 44, 110, 44, 110]) fun x72 =>
 some x72)) fun (z69 : Bool) =>
 cond z69 (
 some (.inr z16.2)) (
 some (.inl ((TColor.mk 0 0 0 0), false))))) fun (z47 : Sum (TColor × Bool) (List Int)) => sumK z47 fun s_z47 =>
 Option.bind (parseval_rgb_2 0 s_z47) fun y90 =>
 Option.bind (parseval_rgb_2 1 s_z47) fun y91 =>
 Option.bind (parseval_rgb_2 2 s_z47) fun y92 =>
 chk (0 ≤ (3 : Int) ∧ (3 : Int) < ln s_z47) <|
 lt (if (gi s_z47 (3 : Int)) < 1000 then (gi s_z47 (3 : Int)) else 1000) fun x94 =>
 lt (w64 (Int.tdiv (w64 ((if 0 < x94 then x94 else 0) * 255)) 1000)) fun x95 =>
 some ((TColor.mk y90 y91 y92 (wu8 x95)), true)
def parseval_color (m : Nat) (v_ : TValue) : Option (TColor × Bool) :=
 Option.bind (
 cond (v_.Token.Kind == 1) (
 Option.bind (parseval_Named m v_.Token.Text) fun y14 =>
 some (.inl (y14.1, y14.2 == 0))) (
 cond (v_.Token.Kind == 4) (
 Option.bind (parseval_hash m v_.Token.Text) fun y32 =>
 some (.inl (y32.1, y32.2))) (
 cond (v_.Token.Kind == 2) (
 Option.bind (parseval_small m v_.Token.Text) fun y41 =>
 lt (cond (y41 == [114, 103, 98]) true (y41 == [114, 103, 98, 97])) fun x44 =>
 cond x44 (
 Option.bind (parseval_rgb m v_.List_) fun y47 =>
 some (.inl (y47.1, y47.2))) (
 some (.inr ()))) (
 some (.inr ()))))) fun (z9 : Sum (TColor × Bool) (Unit)) => sumK z9 fun s_z9 =>
 some ((TColor.mk 0 0 0 0), false)
def parseval_maybe (m : Nat) (v_ : TValue) : Option (List TVal) :=
 Option.bind (
 Option.bind (parseval_color m v_) fun y16 =>
 cond y16.2 (
 chk (ln ([] : List TVal) + ln ([(TVal.mk 7 [] 0 y16.1)] : List TVal) ≤ 1099511627776) <|
 lt (([] : List TVal) ++ ([(TVal.mk 7 [] 0 y16.1)] : List TVal)) fun q36 =>
 some q36) (
 some ([] : List TVal))) fun (z15 : List TVal) =>
 Option.bind (
 cond (v_.Token.Kind == 1) (
 Option.bind (parseval_small m v_.Token.Text) fun y51 =>
 chk (ln z15 + ln ([(TVal.mk 1 y51 0 (TColor.mk 0 0 0 0))] : List TVal) ≤ 1099511627776) <|
 lt (z15 ++ ([(TVal.mk 1 y51 0 (TColor.mk 0 0 0 0))] : List TVal)) fun q61 =>
 lt (y51 == [99, 117, 114, 114, 101, 110, 116, 99, 111, 108, 111, 114]) fun x67 =>
 cond x67 (
 chk (ln q61 + ln ([(TVal.mk 8 [] 0 (TColor.mk 0 0 0 0))] : List TVal) ≤ 1099511627776) <|
 lt (q61 ++ ([(TVal.mk 8 [] 0 (TColor.mk 0 0 0 0))] : List TVal)) fun q77 =>
 some q77) (
 some q61)) (
 cond (v_.Token.Kind == 12) (
 Option.bind (parseval_small m v_.Token.Unit) fun y95 =>
 lt (x_key ([[112, 120], [101, 109], [114, 101, 109]] : List Str) y95) fun x98 =>
 lt (decide (0 < (gi ([2, 3, 4, 0] : List Int) x98))) fun x103 =>
 cond x103 (
 chk (ln z15 + ln ([(TVal.mk (gi ([2, 3, 4, 0] : List Int) x98) [] v_.Token.Num (TColor.mk 0 0 0 0))] : List TVal) ≤ 1099511627776) <|
 lt (z15 ++ ([(TVal.mk (gi ([2, 3, 4, 0] : List Int) x98) [] v_.Token.Num (TColor.mk 0 0 0 0))] : List TVal)) fun q113 =>
 some q113) (
 some z15)) (
 cond (v_.Token.Kind == 10) (
 Option.bind (
 cond v_.Token.Flag (
 chk (ln z15 + ln ([(TVal.mk 6 [] (w64 (Int.tdiv v_.Token.Num 1000)) (TColor.mk 0 0 0 0))] : List TVal) ≤ 1099511627776) <|
 lt (z15 ++ ([(TVal.mk 6 [] (w64 (Int.tdiv v_.Token.Num 1000)) (TColor.mk 0 0 0 0))] : List TVal)) fun q132 =>
 some q132) (
 some z15)) fun (z122 : List TVal) =>
 chk (ln z122 + ln ([(TVal.mk 5 [] v_.Token.Num (TColor.mk 0 0 0 0))] : List TVal) ≤ 1099511627776) <|
 lt (z122 ++ ([(TVal.mk 5 [] v_.Token.Num (TColor.mk 0 0 0 0))] : List TVal)) fun q147 =>
 cond (v_.Token.Num == 0) (
 chk (ln q147 + ln ([(TVal.mk 2 [] 0 (TColor.mk 0 0 0 0))] : List TVal) ≤ 1099511627776) <|
 lt (q147 ++ ([(TVal.mk 2 [] 0 (TColor.mk 0 0 0 0))] : List TVal)) fun q162 =>
 some q162) (
 some q147)) (
 some z15)))) fun (z46 : List TVal) =>
 some z46
def props_Check (v_ : TVal) : Option (Int) :=
 Option.bind (
 Option.bind (
 cond (v_.Kind == 1) (
 Option.bind (
 some (.inr (v_.Word, 0, 0, 0, 0, 0))) fun r25 => some (.inl r25)) (
 cond (v_.Kind == 6) (
 some (.inr (w64 (Int.tdiv 1000000000000 1000)))) (
 Option.bind (
 cond (v_.Kind == 2) (
 some (v_.Kind == 2)) (
 cond (v_.Kind == 3) (
 some (v_.Kind == 3)) (
 cond (v_.Kind == 4) (
 some (v_.Kind == 4)) (
 some (v_.Kind == 5))))) fun (z30 : Bool) =>
 cond z30 (
 some (.inr 1000000000000)) (
 cond (v_.Kind == 7) (
 Option.bind (
 some (.inr ([], v_.Color.Red, v_.Color.Green, v_.Color.Blue, v_.Color.Alpha, 0))) fun r48 => some (.inl r48)) (
 cond (v_.Kind == 8) (
 Option.bind (
 some (.inr ([], 0, 0, 0, 0, 0))) fun r51 => some (.inl r51)) (
 Option.bind (
 some (.inl 8)) fun r54 => some (.inl r54))))))) fun (z18 : Sum (Sum (Int) (Str × Int × Int × Int × Int × Int)) (Int)) => sumK z18 fun s_z18 =>
 lt (if w64 (0 - s_z18) < if v_.Num < s_z18 then v_.Num else s_z18 then if v_.Num < s_z18 then v_.Num else s_z18 else w64 (0 - s_z18)) fun x61 =>
 some (.inr ([], 0, 0, 0, 0, x61))) fun (z15 : Sum (Int) (Str × Int × Int × Int × Int × Int)) => sumK z15 fun s_z15 =>
 lt (!((v_.Kind == v_.Kind) && ((v_.Word == s_z15.1) && ((v_.Num == s_z15.2.2.2.2.2) && (((v_.Color.Red == s_z15.2.1) && ((v_.Color.Green == s_z15.2.2.1) && ((v_.Color.Blue == s_z15.2.2.2.1) && ((v_.Color.Alpha == s_z15.2.2.2.2.1) && true)))) && true))))) fun x67 =>
 lt (cond x67 true (cond (v_.Kind == 1) (v_.Word == []) false)) fun x68 =>
 cond x68 (
 some 8) (
 some 0)
def slices_Index_uint8_uint8_L1 (m : Nat) (s : List Int) (v_ : Int) : Nat → Int → Option (Sum (Int) (Unit))
 | 0, _ => none
 | kk + 1, v6 =>
  cond (decide (v6 < (ln s))) (
  chk (0 ≤ v6 ∧ v6 < ln s) <|
  cond (v_ == (gi s v6)) (
  some (.inl v6)) (
  slices_Index_uint8_uint8_L1 m s v_ kk (w64 (v6 + 1)))) (
  some (.inr ()))
def slices_Index_uint8_uint8 (m : Nat) (s : List Int) (v_ : Int) : Option (Int) :=
 Option.bind (
 slices_Index_uint8_uint8_L1 m s v_ m 0) fun (z3 : Sum (Int) (Unit)) => sumK z3 fun s_z3 =>
 some (-1)
def slices_Contains_uint8_uint8 (m : Nat) (s : List Int) (v_ : Int) : Option (Bool) :=
 Option.bind (slices_Index_uint8_uint8 m s v_) fun y3 =>
 some (decide (0 ≤ y3))
def props_Has (m : Nat) (prop : Int) (v_ : TVal) : Option (Bool × Int) :=
 lt (cond (decide (prop < 0)) true (decide (18 ≤ prop))) fun x6 =>
 cond x6 (
 some (false, 2)) (
 Option.bind (props_Table m) fun y11 =>
 chk (0 ≤ prop ∧ prop < ln y11) <|
 Option.bind (props_Check v_) fun y24 =>
 cond (y24 != 0) (
 some (false, 0)) (
 cond (v_.Kind == 1) (
 Option.bind (slices_Contains_string_string 64 ((gi y11 prop).Words) v_.Word) fun y31 =>
 some (y31, 0)) (
 Option.bind (slices_Contains_uint8_uint8 m ((gi y11 prop).Kinds) v_.Kind) fun y34 =>
 lt (cond y34 (cond (!((gi y11 prop).Least)) true (decide (0 ≤ v_.Num))) false) fun x35 =>
 some (x35, 0))))
def parseval_Parse_L1 (m : Nat) (prop : Int) (y28 : List TVal) : Nat → Int → Option (Sum (TVal × Int) (Unit))
 | 0, _ => none
 | kk + 1, v35 =>
  cond (decide (v35 < (ln y28))) (
  chk (0 ≤ v35 ∧ v35 < ln y28) <|
  Option.bind (props_Has 64 prop (gi y28 v35)) fun y46 =>
  cond y46.1 (
  some (.inl ((gi y28 v35), 0))) (
  parseval_Parse_L1 m prop y28 kk (w64 (v35 + 1)))) (
  some (.inr ()))
def parseval_Parse (m : Nat) (prop : Int) (l_ : List TValue) : Option (TVal × Int) :=
 lt (cond (decide (prop < 0)) true (decide (18 ≤ prop))) fun x6 =>
 cond x6 (
 some ((TVal.mk 0 [] 0 (TColor.mk 0 0 0 0)), 2)) (
 cond ((ln l_) != 1) (
 some ((TVal.mk 0 [] 0 (TColor.mk 0 0 0 0)), 12)) (
 Option.bind (
 chk (0 ≤ (0 : Int) ∧ (0 : Int) < ln l_) <|
 Option.bind (parseval_maybe m (gi l_ (0 : Int))) fun y28 =>
 parseval_Parse_L1 m prop y28 m 0) fun (z23 : Sum (TVal × Int) (Unit)) => sumK z23 fun s_z23 =>
 some ((TVal.mk 0 [] 0 (TColor.mk 0 0 0 0)), 12)))
def short_right (m : Nat) (name_ : Str) (l_ : List TValue) : Option (Bool) :=
 Option.bind (props_Find 64 name_) fun y3 =>
 cond (y3.2 != 0) (
 some false) (
 Option.bind (parseval_Parse m y3.1 l_) fun y10 =>
 some (y10.2 == 0))
def math_bits_Mul64 (x_ : Int) (y_ : Int) : Int × Int :=
 lt (wu64 ((ibit .and .u64 x_ 4294967295) * (ibit .and .u64 y_ 4294967295))) fun x11 =>
 lt (wu64 ((Int.fdiv x_ (2 ^ 32)) * (ibit .and .u64 y_ 4294967295))) fun x14 =>
 lt (ibit .and .u64 (wu64 (x14 + (Int.fdiv x11 (2 ^ 32)))) 4294967295) fun x17 =>
 lt (Int.fdiv (wu64 (x14 + (Int.fdiv x11 (2 ^ 32)))) (2 ^ 32)) fun x20 =>
 lt (wu64 ((ibit .and .u64 x_ 4294967295) * (Int.fdiv y_ (2 ^ 32)))) fun x23 =>
 lt (wu64 ((Int.fdiv x_ (2 ^ 32)) * (Int.fdiv y_ (2 ^ 32)))) fun x26 =>
 lt (wu64 ((wu64 (x26 + x20)) + (Int.fdiv (wu64 (x17 + x23)) (2 ^ 32)))) fun x27 =>
 (x27, wu64 (x_ * y_))
def math_bits_Mul (x_ : Int) (y_ : Int) : Int × Int :=
 lt (math_bits_Mul64 x_ y_) fun y3 =>
 (y3.1, y3.2)
def slices_Repeat_api_Value_api_Value_L1 (m : Nat)  : Nat → (List (List TValue)) → Int → Option (List (List TValue))
 | 0, _, _ => none
 | kk + 1, v31, v33 =>
  cond (decide (v33 < (ln v31))) (
  chk (0 ≤ v33 ∧ v33 ≤ (ln v31) ∧ (ln v31) ≤ ln v31) <|
  chk (0 ≤ (0 : Int) ∧ (0 : Int) ≤ v33 ∧ v33 ≤ ln v31) <|
  lt (cpn v31 v33 (subl v31 (0 : Int) v33)) fun x41 =>
  lt (cpl v31 v33 (subl v31 (0 : Int) v33)) fun q40 =>
  slices_Repeat_api_Value_api_Value_L1 m  kk q40 (w64 (v33 + x41))) (
  some v31)
def slices_Repeat_api_Value_api_Value (m : Nat) (x_ : List (List TValue)) (count : Int) : Option (List (List TValue)) :=
 cond (decide (count < 0)) (
 none) (
 lt (math_bits_Mul (wu64 (ln x_)) (wu64 count)) fun y5 =>
 lt (cond (decide (0 < y5.1)) true (decide (9223372036854775807 < y5.2))) fun x8 =>
 cond x8 (
 none) (
 chk (0 ≤ (w64 y5.2) ∧ (w64 y5.2) ≤ (w64 y5.2) ∧ (w64 y5.2) ≤ 1099511627776) <|
 lt (List.replicate ((w64 y5.2)).toNat ([] : List TValue)) fun q14 =>
 lt (cpn q14 (0 : Int) x_) fun x27 =>
 lt (cpl q14 (0 : Int) x_) fun q26 =>
 Option.bind (
 slices_Repeat_api_Value_api_Value_L1 m  m q26 x27) fun (z30 : List (List TValue)) =>
 some z30))
def short_sides_L1 (m : Nat) (l_ : List TValue) : Nat → (List (List TValue)) → Int → Option (Sum (List (List TValue)) (List (List TValue)))
 | 0, _, _ => none
 | kk + 1, v18, v20 =>
  cond (decide (v20 < (ln l_))) (
  Option.bind (
  chk (0 ≤ v20 ∧ v20 < ln l_) <|
  cond (((gi l_ v20).Token.Kind) == 13) (
  some (.inr v18)) (
  chk ((decide (0 < v20)) = true → 0 ≤ (w64 (v20 - 1)) ∧ (w64 (v20 - 1)) < ln l_) <|
  lt (cond (decide (0 < v20)) (((gi l_ (w64 (v20 - 1))).Token.Kind) != 13) false) fun x37 =>
  cond x37 (
  some (.inl (.inl ([] : List (List TValue))))) (
  chk (0 ≤ v20 ∧ v20 ≤ (w64 (v20 + 1)) ∧ (w64 (v20 + 1)) ≤ ln l_) <|
  lt (subl l_ v20 (w64 (v20 + 1))) fun q46 =>
  chk (ln v18 + ln ([q46] : List (List TValue)) ≤ 1099511627776) <|
  lt (v18 ++ ([q46] : List (List TValue))) fun q56 =>
  some (.inr q56)))) fun (z23 : Sum (Sum (List (List TValue)) (List (List TValue))) (List (List TValue))) => sumK z23 fun s_z23 =>
  short_sides_L1 m l_ kk s_z23 (w64 (v20 + 1))) (
  some (.inr v18))
def short_sides_L2 (m : Nat) (q85 : List Int) : Nat → (List (List TValue)) → Int → Option (List (List TValue))
 | 0, _, _ => none
 | kk + 1, v92, v94 =>
  cond (decide (v94 < (ln q85))) (
  chk (0 ≤ v94 ∧ v94 < ln q85) <|
  chk (0 ≤ (gi q85 v94) ∧ (gi q85 v94) < ln v92) <|
  chk (ln v92 + ln ([(gi v92 (gi q85 v94))] : List (List TValue)) ≤ 1099511627776) <|
  lt (v92 ++ ([(gi v92 (gi q85 v94))] : List (List TValue))) fun q109 =>
  short_sides_L2 m q85 kk q109 (w64 (v94 + 1))) (
  some v92)
def short_sides (m : Nat) (l_ : List TValue) : Option (List (List TValue)) :=
 chk (((ln l_) == 0) = false → 0 ≤ (0 : Int) ∧ (0 : Int) < ln l_) <|
 lt (cond ((ln l_) == 0) true (((gi l_ (0 : Int)).Token.Kind) == 13)) fun x4 =>
 chk (x4 = false → 0 ≤ (w64 ((ln l_) - 1)) ∧ (w64 ((ln l_) - 1)) < ln l_) <|
 lt (cond x4 true (((gi l_ (w64 ((ln l_) - 1))).Token.Kind) == 13)) fun x6 =>
 cond x6 (
 some ([] : List (List TValue))) (
 Option.bind (
 short_sides_L1 m l_ m ([] : List (List TValue)) 0) fun (z14 : Sum (List (List TValue)) (List (List TValue))) => sumK z14 fun s_z14 =>
 cond (decide (4 < (ln s_z14))) (
 some ([] : List (List TValue))) (
 Option.bind (
 chk (0 ≤ (w64 ((ln s_z14) - 1)) ∧ (w64 ((ln s_z14) - 1)) ≤ (ln ([0, 0, 1] : List Int)) ∧ (ln ([0, 0, 1] : List Int)) ≤ ln ([0, 0, 1] : List Int)) <|
 lt (subl ([0, 0, 1] : List Int) (w64 ((ln s_z14) - 1)) (ln ([0, 0, 1] : List Int))) fun q85 =>
 short_sides_L2 m q85 m s_z14 0) fun (z77 : List (List TValue)) =>
 some z77))
def short_parts_L1 (m : Nat) (z11 : List (List TValue)) (y28 : List Str) : Nat → Int → Option (Sum (List (List TValue)) (Unit))
 | 0, _ => none
 | kk + 1, v43 =>
  cond (decide (v43 < (ln y28))) (
  chk (0 ≤ v43 ∧ v43 < ln y28) <|
  chk (0 ≤ v43 ∧ v43 < ln z11) <|
  Option.bind (short_right m (gi y28 v43) (gi z11 v43)) fun y50 =>
  cond (!y50) (
  some (.inl ([] : List (List TValue)))) (
  short_parts_L1 m z11 y28 kk (w64 (v43 + 1)))) (
  some (.inr ()))
def short_parts (m : Nat) (whole : Str) (l_ : List TValue) : Option (List (List TValue)) :=
 Option.bind (
 cond (whole == [109, 97, 114, 103, 105, 110]) (
 Option.bind (short_sides m l_) fun y16 =>
 some y16) (
 some ([l_] : List (List TValue)))) fun (z11 : List (List TValue)) =>
 Option.bind (short_of 64 whole) fun y28 =>
 cond ((ln z11) != (ln y28)) (
 some ([] : List (List TValue))) (
 Option.bind (
 short_parts_L1 m z11 y28 m 0) fun (z40 : Sum (List (List TValue)) (Unit)) => sumK z40 fun s_z40 =>
 some z11)
def short_clone_L1 (m : Nat) (l_ : List TValue) (rec_short_clone : (List TValue) → Option (List TValue)) : Nat → (List TValue) → Int → Option (List TValue)
 | 0, _, _ => none
 | kk + 1, v9, v11 =>
  cond (decide (v11 < (ln l_))) (
  chk (0 ≤ v11 ∧ v11 < ln l_) <|
  Option.bind (rec_short_clone ((gi l_ v11).List_)) fun y24 =>
  chk (ln v9 + ln ([(TValue.mk ((gi l_ v11).Token) y24)] : List TValue) ≤ 1099511627776) <|
  lt (v9 ++ ([(TValue.mk ((gi l_ v11).Token) y24)] : List TValue)) fun q30 =>
  short_clone_L1 m l_ rec_short_clone kk q30 (w64 (v11 + 1))) (
  some v9)
def short_clone_r (m : Nat) : Nat → (List TValue) → Option (List TValue)
 | 0, _ => none
 | k + 1, l_ =>
  Option.bind (
  short_clone_L1 m l_ (short_clone_r m k) m ([] : List TValue) 0) fun (z5 : List TValue) =>
  some z5
def short_clone (m : Nat) (l_ : List TValue) : Option (List TValue) := short_clone_r m  m l_
def short_Expand_L1 (m : Nat) (d_ : TDecl) (y16 : (List Str) × Int) (y30 : List Str) (y37 : Bool) (z42 : List (List TValue)) : Nat → (List TLong) → Int → Option (List TLong)
 | 0, _, _ => none
 | kk + 1, v102, v104 =>
  cond (decide (v104 < (ln y16.1))) (
  chk (0 ≤ v104 ∧ v104 < ln y16.1) <|
  chk (0 ≤ v104 ∧ v104 < ln z42) <|
  Option.bind (short_clone m (gi z42 v104)) fun y114 =>
  Option.bind (
  cond (cond (decide (0 < (ln y30))) y37 false) (
  some d_.Name) (
  some [])) fun (z126 : Str) =>
  chk (ln v102 + ln ([(TLong.mk (gi y16.1 v104) y114 z126)] : List TLong) ≤ 1099511627776) <|
  lt (v102 ++ ([(TLong.mk (gi y16.1 v104) y114 z126)] : List TLong)) fun q141 =>
  short_Expand_L1 m d_ y16 y30 y37 z42 kk q141 (w64 (v104 + 1))) (
  some v102)
def short_Expand (m : Nat) (d_ : TDecl) : Option ((List TLong) × Int) :=
 Option.bind (nest_Check m d_.Value) fun y6 =>
 cond (y6 != 0) (
 some (([] : List TLong), y6)) (
 Option.bind (short_Longs 64 d_.Name) fun y16 =>
 cond (y16.2 != 0) (
 some (([] : List TLong), y16.2)) (
 Option.bind (short_of 64 d_.Name) fun y30 =>
 Option.bind (short_Var m d_.Value) fun y37 =>
 Option.bind (
 Option.bind (
 Option.bind (props_Custom d_.Name) fun y44 =>
 cond y44 (
 some y44) (
 Option.bind (short_Wide m d_.Value) fun y47 =>
 cond (!(y47 == [])) (
 some (!(y47 == []))) (
 cond y37 (
 some y37) (
 Option.bind (cond (!(decide (0 < (ln y30)))) (short_right m d_.Name d_.Value) (some default)) fun y52 =>
 lt (cond (!(decide (0 < (ln y30)))) y52 false) fun x53 =>
 some x53)))) fun (z43 : Bool) =>
 cond z43 (
 Option.bind (slices_Repeat_api_Value_api_Value m ([d_.Value] : List (List TValue)) (ln y16.1)) fun y67 =>
 some y67) (
 cond (decide (0 < (ln y30))) (
 Option.bind (short_parts m d_.Name d_.Value) fun y78 =>
 some y78) (
 some ([] : List (List TValue))))) fun (z42 : List (List TValue)) =>
 cond ((ln z42) == 0) (
 some (([] : List TLong), 12)) (
 Option.bind (
 short_Expand_L1 m d_ y16 y30 y37 z42 m ([] : List TLong) 0) fun (z98 : List TLong) =>
 some (z98, 0))))
def short_Known (m : Nat) (d_ : TDecl) : Option (Bool) :=
 Option.bind (short_Expand m d_) fun y8 =>
 some (y8.2 == 0)
def r04_Same_L1 (m : Nat) (a_ : List TValue) (b_ : List TValue) (rec_r04_Same : (List TValue) → (List TValue) → Option (Bool)) : Nat → Int → Option (Sum (Bool) (Unit))
 | 0, _ => none
 | kk + 1, v10 =>
  cond (decide (v10 < (ln a_))) (
  chk (0 ≤ v10 ∧ v10 < ln a_) <|
  chk (0 ≤ v10 ∧ v10 < ln b_) <|
  lt (!((((gi a_ v10).Token.Kind) == ((gi b_ v10).Token.Kind)) && ((((gi a_ v10).Token.Text) == ((gi b_ v10).Token.Text)) && ((((gi a_ v10).Token.Num) == ((gi b_ v10).Token.Num)) && ((((gi a_ v10).Token.Unit) == ((gi b_ v10).Token.Unit)) && ((((gi a_ v10).Token.Flag) == ((gi b_ v10).Token.Flag)) && true)))))) fun x15 =>
  Option.bind (cond x15 (some default) (rec_r04_Same ((gi a_ v10).List_) ((gi b_ v10).List_))) fun y16 =>
  cond (cond x15 true (!y16)) (
  some (.inl false)) (
  r04_Same_L1 m a_ b_ rec_r04_Same kk (w64 (v10 + 1)))) (
  some (.inr ()))
def r04_Same_r (m : Nat) : Nat → (List TValue) → (List TValue) → Option (Bool)
 | 0, _, _ => none
 | k + 1, a_, b_ =>
  cond ((ln a_) != (ln b_)) (
  some false) (
  Option.bind (
  r04_Same_L1 m a_ b_ (r04_Same_r m k) m 0) fun (z7 : Sum (Bool) (Unit)) => sumK z7 fun s_z7 =>
  some true)
def r04_Same (m : Nat) (a_ : List TValue) (b_ : List TValue) : Option (Bool) := r04_Same_r m  m a_ b_
def law27_is_L1 (m : Nat) (whole : Str) (want : List Str) (y8 : (List TLong) × Int) : Nat → Int → Option (Sum (Bool) (Unit))
 | 0, _ => none
 | kk + 1, v24 =>
  cond (decide (v24 < (ln y8.1))) (
  chk (0 ≤ v24 ∧ v24 < ln y8.1) <|
  chk (0 ≤ (w64 (2 * v24)) ∧ (w64 (2 * v24)) < ln want) <|
  lt (!(((gi y8.1 v24).Name) == (gi want (w64 (2 * v24))))) fun x30 =>
  chk (x30 = false) <|
  chk (0 ≤ (w64 ((w64 (2 * v24)) + 1)) ∧ (w64 ((w64 (2 * v24)) + 1)) < ln want) <|
  Option.bind (r04_Of m (gi want (w64 ((w64 (2 * v24)) + 1)))) fun y33 =>
  Option.bind (r04_Same m ((gi y8.1 v24).Value) y33) fun y36 =>
  chk ((cond x30 true (!y36)) = false) <|
  lt (cond (cond x30 true (!y36)) true (!(((gi y8.1 v24).Whole) == whole))) fun x38 =>
  cond x38 (
  some (.inl false)) (
  law27_is_L1 m whole want y8 kk (w64 (v24 + 1)))) (
  some (.inr ()))
def law27_is (m : Nat) (d_ : TDecl) (whole : Str) (want : List Str) : Option (Bool) :=
 Option.bind (short_Expand m d_) fun y8 =>
 lt (cond (y8.2 != 0) true ((w64 (2 * (ln y8.1))) != (ln want))) fun x15 =>
 Option.bind (cond x15 (some default) (short_Known m d_)) fun y16 =>
 cond (cond x15 true (!y16)) (
 some false) (
 Option.bind (
 law27_is_L1 m whole want y8 m 0) fun (z21 : Sum (Bool) (Unit)) => sumK z21 fun s_z21 =>
 some true)
def law27_none (m : Nat) (d_ : TDecl) (want : Int) : Option (Bool) :=
 Option.bind (short_Expand m d_) fun y8 =>
 lt (cond ((ln y8.1) == 0) (y8.2 == want) false) fun x15 =>
 Option.bind (cond x15 (short_Known m d_) (some default)) fun y16 =>
 some (cond x15 (!y16) false)
def short_Part (m : Nat) (whole : Str) (long : Str) (l_ : List TValue) : Option ((List TValue) × Int) :=
 Option.bind (nest_Check m l_) fun y3 =>
 cond (y3 != 0) (
 some (([] : List TValue), y3)) (
 Option.bind (short_of 64 whole) fun y13 =>
 Option.bind (slices_Index_string_string m y13 long) fun y18 =>
 cond (decide (y18 < 0)) (
 some (([] : List TValue), 6)) (
 Option.bind (short_parts m whole l_) fun y28 =>
 cond ((ln y28) == 0) (
 some (([] : List TValue), 12)) (
 chk (0 ≤ y18 ∧ y18 < ln y28) <|
 Option.bind (short_clone m (gi y28 y18)) fun y44 =>
 some (y44, 0))))
def law27_alive (m : Nat)  : Option (Bool) :=
 Option.bind (
 Option.bind (law27_decl m [109, 97, 114, 103, 105, 110] [49, 112, 120, 32, 97, 117, 116, 111]) fun y4 =>
 Option.bind (law27_is m y4 [] ([[109, 97, 114, 103, 105, 110, 45, 116, 111, 112], [49, 112, 120], [109, 97, 114, 103, 105, 110, 45, 114, 105, 103, 104, 116], [97, 117, 116, 111], [109, 97, 114, 103, 105, 110, 45, 98, 111, 116, 116, 111, 109], [49, 112, 120], [109, 97, 114, 103, 105, 110, 45, 108, 101, 102, 116], [97, 117, 116, 111]] : List Str)) fun y13 =>
 lt (y13) fun x14 =>
 cond x14 (
 Option.bind (law27_decl m [109, 97, 114, 103, 105, 110] [49, 112, 120, 32, 118, 97, 114, 40, 45, 45, 97, 41]) fun y17 =>
 Option.bind (law27_is m y17 [109, 97, 114, 103, 105, 110] ([[109, 97, 114, 103, 105, 110, 45, 116, 111, 112], [49, 112, 120, 32, 118, 97, 114, 40, 45, 45, 97, 41], [109, 97, 114, 103, 105, 110, 45, 114, 105, 103, 104, 116], [49, 112, 120, 32, 118, 97, 114, 40, 45, 45, 97, 41], [109, 97, 114, 103, 105, 110, 45, 98, 111, 116, 116, 111, 109], [49, 112, 120, 32, 118, 97, 114, 40, 45, 45, 97, 41], [109, 97, 114, 103, 105, 110, 45, 108, 101, 102, 116], [49, 112, 120, 32, 118, 97, 114, 40, 45, 45, 97, 41]] : List Str)) fun y26 =>
 lt (y26) fun x27 =>
 cond x27 (
 Option.bind (law27_decl m [98, 111, 114, 100, 101, 114] [82, 69, 68]) fun y30 =>
 Option.bind (law27_is m y30 [] ([[98, 111, 114, 100, 101, 114, 45, 99, 111, 108, 111, 114], [82, 69, 68]] : List Str)) fun y39 =>
 lt (y39) fun x40 =>
 cond x40 (
 Option.bind (law27_decl m [111, 117, 116, 108, 105, 110, 101] [117, 110, 115, 101, 116]) fun y43 =>
 Option.bind (law27_is m y43 [] ([[111, 117, 116, 108, 105, 110, 101, 45, 99, 111, 108, 111, 114], [117, 110, 115, 101, 116]] : List Str)) fun y52 =>
 lt (y52) fun x53 =>
 cond x53 (
 Option.bind (law27_decl m [109, 97, 114, 103, 105, 110] [49, 112, 120, 32, 114, 101, 100]) fun y56 =>
 Option.bind (law27_none m y56 12) fun y61 =>
 lt (y61) fun x62 =>
 cond x62 (
 Option.bind (law27_decl m [109, 97, 114, 103, 105, 110] [49, 112, 120, 44, 32, 50, 112, 120]) fun y65 =>
 Option.bind (law27_none m y65 12) fun y70 =>
 lt (y70) fun x71 =>
 cond x71 (
 Option.bind (law27_decl m [99, 111, 108, 111, 114] [49, 112, 120]) fun y74 =>
 Option.bind (law27_none m y74 12) fun y79 =>
 lt (y79) fun x80 =>
 cond x80 (
 Option.bind (law27_decl m [45, 45, 120] []) fun y83 =>
 Option.bind (law27_is m y83 [] ([[45, 45, 120], []] : List Str)) fun y92 =>
 some y92) (
 some false)) (
 some false)) (
 some false)) (
 some false)) (
 some false)) (
 some false)) (
 some false)) fun (z3 : Bool) =>
 some z3
def law27_ShortNames_L1 (m : Nat)  : Nat → Int → Option (Sum (Bool) (Unit))
 | 0, _ => none
 | kk + 1, v199 =>
  cond (decide (v199 < 9)) (
  chk (0 ≤ v199 ∧ v199 < ln ([[], [49, 112, 120, 32, 50, 112, 120, 32, 51, 112, 120, 32, 52, 112, 120, 32, 53, 112, 120], [49, 112, 120, 32, 105, 110, 104, 101, 114, 105, 116], [49, 112, 120, 47, 50, 112, 120], [40, 49, 112, 120, 41], [49], [97, 117, 116, 111, 32, 97, 117, 116, 111, 32, 97, 117, 116, 111, 32, 110, 111, 110, 101], [114, 101, 100], [49, 112, 120, 44, 50, 112, 120]] : List Str)) <|
  lt ((gi ([[], [49, 112, 120, 32, 50, 112, 120, 32, 51, 112, 120, 32, 52, 112, 120, 32, 53, 112, 120], [49, 112, 120, 32, 105, 110, 104, 101, 114, 105, 116], [49, 112, 120, 47, 50, 112, 120], [40, 49, 112, 120, 41], [49], [97, 117, 116, 111, 32, 97, 117, 116, 111, 32, 97, 117, 116, 111, 32, 110, 111, 110, 101], [114, 101, 100], [49, 112, 120, 44, 50, 112, 120]] : List Str) v199)) fun x203 =>
  Option.bind (law27_decl m [109, 97, 114, 103, 105, 110] x203) fun y206 =>
  Option.bind (law27_none m y206 12) fun y211 =>
  cond (!y211) (
  some (.inl false)) (
  law27_ShortNames_L1 m  kk (w64 (v199 + 1)))) (
  some (.inr ()))
def law27_ShortNames_L2 (m : Nat)  : Nat → Int → (List TValue) → Option (List TValue)
 | 0, _, _ => none
 | kk + 1, v326, v327 =>
  cond (decide (v326 < 17)) (
  law27_ShortNames_L2 m  kk (w64 (v326 + 1)) ([(TValue.mk (TToken.mk 21 [] 0 [] false) v327)] : List TValue)) (
  some v327)
def law27_ShortNames (m : Nat)  : Option (Bool) :=
 lt (short_Names) fun y3 =>
 Option.bind (r27_SameTexts m y3 ([[109, 97, 114, 103, 105, 110], [98, 111, 114, 100, 101, 114], [111, 117, 116, 108, 105, 110, 101], [98, 97, 99, 107, 103, 114, 111, 117, 110, 100]] : List Str)) fun y12 =>
 Option.bind (law27_decl m [109, 97, 114, 103, 105, 110] [48]) fun y15 =>
 Option.bind (law27_is m y15 [] ([[109, 97, 114, 103, 105, 110, 45, 116, 111, 112], [48], [109, 97, 114, 103, 105, 110, 45, 114, 105, 103, 104, 116], [48], [109, 97, 114, 103, 105, 110, 45, 98, 111, 116, 116, 111, 109], [48], [109, 97, 114, 103, 105, 110, 45, 108, 101, 102, 116], [48]] : List Str)) fun y24 =>
 Option.bind (law27_decl m [109, 97, 114, 103, 105, 110] [49, 112, 120, 32, 50, 101, 109, 32, 32, 97, 117, 116, 111]) fun y27 =>
 Option.bind (law27_is m y27 [] ([[109, 97, 114, 103, 105, 110, 45, 116, 111, 112], [49, 112, 120], [109, 97, 114, 103, 105, 110, 45, 114, 105, 103, 104, 116], [50, 101, 109], [109, 97, 114, 103, 105, 110, 45, 98, 111, 116, 116, 111, 109], [97, 117, 116, 111], [109, 97, 114, 103, 105, 110, 45, 108, 101, 102, 116], [50, 101, 109]] : List Str)) fun y36 =>
 Option.bind (law27_decl m [109, 97, 114, 103, 105, 110] [49, 112, 120, 32, 50, 112, 120, 32, 51, 112, 120, 32, 52, 112, 120]) fun y39 =>
 Option.bind (law27_is m y39 [] ([[109, 97, 114, 103, 105, 110, 45, 116, 111, 112], [49, 112, 120], [109, 97, 114, 103, 105, 110, 45, 114, 105, 103, 104, 116], [50, 112, 120], [109, 97, 114, 103, 105, 110, 45, 98, 111, 116, 116, 111, 109], [51, 112, 120], [109, 97, 114, 103, 105, 110, 45, 108, 101, 102, 116], [52, 112, 120]] : List Str)) fun y48 =>
 Option.bind (
 Option.bind (law27_decl m [109, 97, 114, 103, 105, 110] [82, 69, 86, 69, 82, 84]) fun y52 =>
 Option.bind (law27_is m y52 [] ([[109, 97, 114, 103, 105, 110, 45, 116, 111, 112], [82, 69, 86, 69, 82, 84], [109, 97, 114, 103, 105, 110, 45, 114, 105, 103, 104, 116], [82, 69, 86, 69, 82, 84], [109, 97, 114, 103, 105, 110, 45, 98, 111, 116, 116, 111, 109], [82, 69, 86, 69, 82, 84], [109, 97, 114, 103, 105, 110, 45, 108, 101, 102, 116], [82, 69, 86, 69, 82, 84]] : List Str)) fun y61 =>
 lt (y61) fun x62 =>
 cond x62 (
 Option.bind (law27_decl m [99, 111, 108, 111, 114] [73, 110, 104, 101, 114, 105, 116]) fun y65 =>
 Option.bind (law27_is m y65 [] ([[99, 111, 108, 111, 114], [73, 110, 104, 101, 114, 105, 116]] : List Str)) fun y74 =>
 lt (y74) fun x75 =>
 cond x75 (
 Option.bind (law27_decl m [45, 45, 97] [105, 110, 105, 116, 105, 97, 108]) fun y78 =>
 Option.bind (law27_is m y78 [] ([[45, 45, 97], [105, 110, 105, 116, 105, 97, 108]] : List Str)) fun y87 =>
 some y87) (
 some false)) (
 some false)) fun (z51 : Bool) =>
 Option.bind (
 Option.bind (law27_decl m [98, 97, 99, 107, 103, 114, 111, 117, 110, 100] [86, 65, 82, 40, 45, 45, 98, 44, 32, 114, 101, 100, 41]) fun y106 =>
 Option.bind (law27_is m y106 [98, 97, 99, 107, 103, 114, 111, 117, 110, 100] ([[98, 97, 99, 107, 103, 114, 111, 117, 110, 100, 45, 99, 111, 108, 111, 114], [86, 65, 82, 40, 45, 45, 98, 44, 32, 114, 101, 100, 41]] : List Str)) fun y115 =>
 lt (y115) fun x116 =>
 cond x116 (
 Option.bind (law27_decl m [119, 105, 100, 116, 104] [99, 97, 108, 99, 40, 49, 112, 120, 32, 43, 32, 118, 97, 114, 40, 45, 45, 119, 41, 41]) fun y119 =>
 Option.bind (law27_is m y119 [] ([[119, 105, 100, 116, 104], [99, 97, 108, 99, 40, 49, 112, 120, 32, 43, 32, 118, 97, 114, 40, 45, 45, 119, 41, 41]] : List Str)) fun y128 =>
 lt (y128) fun x129 =>
 cond x129 (
 Option.bind (law27_decl m [45, 45, 118] [49, 32, 118, 97, 114, 40, 45, 45, 118, 41]) fun y132 =>
 Option.bind (law27_is m y132 [] ([[45, 45, 118], [49, 32, 118, 97, 114, 40, 45, 45, 118, 41]] : List Str)) fun y141 =>
 some y141) (
 some false)) (
 some false)) fun (z105 : Bool) =>
 Option.bind (
 Option.bind (law27_decl m [98, 97, 99, 107, 103, 114, 111, 117, 110, 100] [35, 102, 102, 102]) fun y160 =>
 Option.bind (law27_is m y160 [] ([[98, 97, 99, 107, 103, 114, 111, 117, 110, 100, 45, 99, 111, 108, 111, 114], [35, 102, 102, 102]] : List Str)) fun y169 =>
 lt (y169) fun x170 =>
 cond x170 (
 Option.bind (law27_decl m [98, 111, 114, 100, 101, 114] [99, 117, 114, 114, 101, 110, 116, 99, 111, 108, 111, 114]) fun y173 =>
 Option.bind (law27_is m y173 [] ([[98, 111, 114, 100, 101, 114, 45, 99, 111, 108, 111, 114], [99, 117, 114, 114, 101, 110, 116, 99, 111, 108, 111, 114]] : List Str)) fun y182 =>
 some y182) (
 some false)) fun (z159 : Bool) =>
 Option.bind (
 law27_ShortNames_L1 m  m 0) fun (z196 : Sum (Bool) (Unit)) => sumK z196 fun s_z196 =>
 Option.bind (law27_decl m [109, 97, 114, 103, 105, 110] [49, 112, 120]) fun y221 =>
 chk (ln y221.Value + ln ([(TValue.mk (TToken.mk 13 [] 0 [] false) [])] : List TValue) ≤ 1099511627776) <|
 lt (y221.Value ++ ([(TValue.mk (TToken.mk 13 [] 0 [] false) [])] : List TValue)) fun q238 =>
 Option.bind (law27_decl m [109, 97, 114, 103, 105, 110] [49, 112, 120, 32, 50, 112, 120]) fun y246 =>
 chk (0 ≤ (2 : Int) ∧ (2 : Int) ≤ ln y246.Value) <|
 lt (subl y246.Value (0 : Int) (2 : Int)) fun q258 =>
 chk (0 ≤ (2 : Int) ∧ (2 : Int) ≤ (ln y246.Value) ∧ (ln y246.Value) ≤ ln y246.Value) <|
 lt (subl y246.Value (2 : Int) (ln y246.Value)) fun q264 =>
 chk (ln ([(TValue.mk (TToken.mk 13 [] 0 [] false) [])] : List TValue) + ln q264 ≤ 1099511627776) <|
 lt (([(TValue.mk (TToken.mk 13 [] 0 [] false) [])] : List TValue) ++ q264) fun q268 =>
 chk (ln q258 + ln q268 ≤ 1099511627776) <|
 chk (0 < ln q258 ∧ 0 < ln q268) <|
 lt (q258 ++ q268) fun q272 =>
 Option.bind (law27_decl m [109, 97, 114, 103, 105, 110] [49, 112, 120, 32, 50, 112, 120]) fun y282 =>
 chk (0 ≤ (1 : Int) ∧ (1 : Int) ≤ ln y282.Value) <|
 lt (subl y282.Value (0 : Int) (1 : Int)) fun q294 =>
 chk (0 ≤ (2 : Int) ∧ (2 : Int) ≤ (ln y282.Value) ∧ (ln y282.Value) ≤ ln y282.Value) <|
 lt (subl y282.Value (2 : Int) (ln y282.Value)) fun q298 =>
 chk (ln q294 + ln q298 ≤ 1099511627776) <|
 chk (0 < ln q294 ∧ 0 < ln q298) <|
 lt (q294 ++ q298) fun q303 =>
 Option.bind (law27_decl m [45, 45, 97] []) fun y312 =>
 Option.bind (
 law27_ShortNames_L2 m  m 0 y312.Value) fun (z322 : List TValue) =>
 Option.bind (short_Part m [109, 97, 114, 103, 105, 110] [109, 97, 114, 103, 105, 110] []) fun y348 =>
 Option.bind (r04_Of m [114, 101, 100]) fun y355 =>
 Option.bind (short_Part m [99, 111, 108, 111, 114] [99, 111, 108, 111, 114] y355) fun y360 =>
 Option.bind (r04_Of m [114, 101, 100]) fun y367 =>
 Option.bind (short_Part m [98, 111, 114, 100, 101, 114] [111, 117, 116, 108, 105, 110, 101, 45, 99, 111, 108, 111, 114] y367) fun y372 =>
 Option.bind (r04_Of m [114, 101, 100, 32, 114, 101, 100]) fun y379 =>
 Option.bind (short_Part m [98, 111, 114, 100, 101, 114] [98, 111, 114, 100, 101, 114, 45, 99, 111, 108, 111, 114] y379) fun y384 =>
 Option.bind (r04_Of m [49, 112, 120, 32, 50, 112, 120]) fun y391 =>
 Option.bind (short_Part m [109, 97, 114, 103, 105, 110] [109, 97, 114, 103, 105, 110, 45, 108, 101, 102, 116] y391) fun y396 =>
 Option.bind (short_Part m [109, 97, 114, 103, 105, 110] [120] z322) fun y405 =>
 Option.bind (short_Longs 64 [102, 111, 110, 116]) fun y412 =>
 Option.bind (short_Longs 64 [45, 45, 113]) fun y419 =>
 Option.bind (short_Longs 64 [109, 97, 114, 103, 105, 110, 45, 116, 111, 112]) fun y426 =>
 Option.bind (
 Option.bind (law27_alive 300) fun y434 =>
 lt (cond (cond (cond y434 y12 false) y24 false) y36 false) fun x435 =>
 lt (cond (cond (cond x435 y48 false) z51 false) z105 false) fun x436 =>
 lt (cond x436 z159 false) fun x437 =>
 cond x437 (
 Option.bind (law27_is m (TDecl.mk y246.Name q272 y246.Important) [] ([[109, 97, 114, 103, 105, 110, 45, 116, 111, 112], [49, 112, 120], [109, 97, 114, 103, 105, 110, 45, 114, 105, 103, 104, 116], [50, 112, 120], [109, 97, 114, 103, 105, 110, 45, 98, 111, 116, 116, 111, 109], [49, 112, 120], [109, 97, 114, 103, 105, 110, 45, 108, 101, 102, 116], [50, 112, 120]] : List Str)) fun y446 =>
 Option.bind (cond y446 (law27_none m (TDecl.mk y282.Name q303 y282.Important) 12) (some default)) fun y447 =>
 Option.bind (cond (cond y446 y447 false) (law27_none m (TDecl.mk y221.Name q238 y221.Important) 12) (some default)) fun y448 =>
 Option.bind (cond (cond (cond y446 y447 false) y448 false) (law27_none m (TDecl.mk y312.Name z322 y312.Important) 20) (some default)) fun y449 =>
 lt (cond (cond (cond y446 y447 false) y448 false) y449 false) fun x450 =>
 lt (x450) fun x451 =>
 cond x451 (
 Option.bind (law27_decl m [102, 111, 110, 116] [49, 112, 120]) fun y454 =>
 Option.bind (law27_none m y454 6) fun y459 =>
 lt (y459) fun x460 =>
 cond x460 (
 Option.bind (law27_decl m [67, 111, 108, 111, 114] [114, 101, 100]) fun y463 =>
 Option.bind (law27_none m y463 6) fun y468 =>
 lt (y468) fun x469 =>
 cond x469 (
 Option.bind (law27_decl m [98, 111, 114, 100, 101, 114] [49, 112, 120, 32, 114, 101, 100]) fun y472 =>
 Option.bind (law27_none m y472 12) fun y477 =>
 lt (cond (cond y477 (y348.2 == 6) false) (y360.2 == 6) false) fun x478 =>
 lt (cond (cond x478 (y372.2 == 6) false) (y384.2 == 12) false) fun x479 =>
 lt (cond x479 (y396.2 == 0) false) fun x480 =>
 cond x480 (
 Option.bind (r04_Of m [50, 112, 120]) fun y485 =>
 Option.bind (r04_Same m y396.1 y485) fun y490 =>
 lt (cond (cond y490 (y405.2 == 20) false) (y412.2 == 6) false) fun x491 =>
 lt (cond x491 (y419.2 == 0) false) fun x492 =>
 cond x492 (
 Option.bind (r27_SameTexts m y419.1 ([[45, 45, 113]] : List Str)) fun y501 =>
 lt (cond y501 (y426.2 == 0) false) fun x502 =>
 cond x502 (
 Option.bind (r27_SameTexts m y426.1 ([[109, 97, 114, 103, 105, 110, 45, 116, 111, 112]] : List Str)) fun y511 =>
 lt (y511) fun x512 =>
 cond x512 (
 Option.bind (r04_Of m [85, 110, 83, 101, 116]) fun y515 =>
 Option.bind (short_Wide m y515) fun y520 =>
 lt (y520 == [117, 110, 115, 101, 116]) fun x521 =>
 cond x521 (
 Option.bind (r04_Of m [117, 110, 115, 101, 116, 32, 117, 110, 115, 101, 116]) fun y524 =>
 Option.bind (short_Wide m y524) fun y529 =>
 lt (y529 == []) fun x530 =>
 cond x530 (
 Option.bind (r04_Of m [34, 117, 110, 115, 101, 116, 34]) fun y533 =>
 Option.bind (short_Wide m y533) fun y538 =>
 lt (y538 == []) fun x539 =>
 cond x539 (
 Option.bind (r04_Of m [118, 97, 114]) fun y542 =>
 Option.bind (short_Var m y542) fun y547 =>
 lt (!y547) fun x548 =>
 cond x548 (
 Option.bind (r04_Of m [91, 123, 102, 40, 118, 97, 82, 40, 41, 41, 125, 93]) fun y551 =>
 Option.bind (short_Var m y551) fun y556 =>
 some y556) (
 some false)) (
 some false)) (
 some false)) (
 some false)) (
 some false)) (
 some false)) (
 some false)) (
 some false)) (
 some false)) (
 some false)) (
 some false)) (
 some false)) fun (z433 : Bool) =>
 some z433
end Go.Proofs.YtpgflfjmjppmeaaGreatDoor

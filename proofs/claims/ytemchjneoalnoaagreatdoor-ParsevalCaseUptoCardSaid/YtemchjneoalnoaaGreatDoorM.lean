/-
 What the Go functions compute, as Lean functions.
-/
import Derived.Test.YtemchjneoalnoaaGreatDoorVP
import Derived.Test.YtemchjneoalnoaaGreatDoorI
import Derived.Test.YtemchjneoalnoaaGreatDoorIF
import Derived.Test.YtemchjneoalnoaaGreatDoorMP
import Derived.Test.YtemchjneoalnoaaGreatDoorX
set_option linter.unusedVariables false
set_option maxRecDepth 20000
set_option maxHeartbeats 4000000
namespace Go.Proofs.YtemchjneoalnoaaGreatDoor
open Go.V Go.RowKit
def gl_math_bits_deBruijn32tab : List Int := [0, 1, 28, 2, 29, 14, 24, 3, 30, 22, 20, 15, 25, 17, 4, 8, 31, 27, 13, 23, 21, 19, 16, 7, 26, 12, 18, 6, 11, 5, 10, 9]
def gl_math_bits_deBruijn64tab : List Int := [0, 1, 56, 2, 57, 49, 28, 3, 61, 58, 42, 50, 38, 29, 17, 4, 62, 47, 59, 36, 45, 43, 51, 22, 53, 39, 33, 30, 24, 18, 12, 5, 63, 55, 48, 27, 60, 41, 37, 16, 46, 35, 44, 21, 52, 32, 23, 11, 54, 26, 40, 15, 34, 20, 31, 10, 25, 14, 19, 9, 13, 8, 7, 6]
def gl_strings_asciiSpace : List Int := [0, 0, 0, 0, 0, 0, 0, 0, 0, 1, 1, 1, 1, 1, 0, 0, 0, 0, 0, 0, 0, 0, 0, 0, 0, 0, 0, 0, 0, 0, 0, 0, 1, 0, 0, 0, 0, 0, 0, 0, 0, 0, 0, 0, 0, 0, 0, 0, 0, 0, 0, 0, 0, 0, 0, 0, 0, 0, 0, 0, 0, 0, 0, 0, 0, 0, 0, 0, 0, 0, 0, 0, 0, 0, 0, 0, 0, 0, 0, 0, 0, 0, 0, 0, 0, 0, 0, 0, 0, 0, 0, 0, 0, 0, 0, 0, 0, 0, 0, 0, 0, 0, 0, 0, 0, 0, 0, 0, 0, 0, 0, 0, 0, 0, 0, 0, 0, 0, 0, 0, 0, 0, 0, 0, 0, 0, 0, 0, 0, 0, 0, 0, 0, 0, 0, 0, 0, 0, 0, 0, 0, 0, 0, 0, 0, 0, 0, 0, 0, 0, 0, 0, 0, 0, 0, 0, 0, 0, 0, 0, 0, 0, 0, 0, 0, 0, 0, 0, 0, 0, 0, 0, 0, 0, 0, 0, 0, 0, 0, 0, 0, 0, 0, 0, 0, 0, 0, 0, 0, 0, 0, 0, 0, 0, 0, 0, 0, 0, 0, 0, 0, 0, 0, 0, 0, 0, 0, 0, 0, 0, 0, 0, 0, 0, 0, 0, 0, 0, 0, 0, 0, 0, 0, 0, 0, 0, 0, 0, 0, 0, 0, 0, 0, 0, 0, 0, 0, 0, 0, 0, 0, 0, 0, 0, 0, 0, 0, 0, 0, 0, 0, 0, 0, 0, 0, 0]
structure TColor where
 Red : Int
 Green : Int
 Blue : Int
 Alpha : Int
instance : Inhabited TColor := ⟨⟨default, default, default, default⟩⟩
def r01_Cleaned_L1 (m : Nat) (s : Str) : Nat → Str → Int → Option (Str)
 | 0, _, _ => none
 | kk + 1, v8, v9 =>
  cond (decide (v9 < (ln s))) (
  Option.bind (
  chk (0 ≤ v9 ∧ v9 < ln s) <|
  lt (cond ((bat s v9) == 10) (decide (0 < v9)) false) fun x16 =>
  chk (x16 = true → 0 ≤ (w64 (v9 - 1)) ∧ (w64 (v9 - 1)) < ln s) <|
  lt (cond x16 ((bat s (w64 (v9 - 1))) == 13) false) fun x18 =>
  cond x18 (
  some v8) (
  Option.bind (
  lt (cond ((bat s v9) == 13) true ((bat s v9) == 12)) fun x22 =>
  cond x22 (
  some 10) (
  some (bat s v9))) fun (z21 : Int) =>
  cond (z21 == 0) (
  chk (ln v8 + ln (toB ([239, 191, 189] : List Int)) ≤ 9223372036854775807) <|
  some (v8 ++ (toB ([239, 191, 189] : List Int)))) (
  chk (ln v8 + ln (toB ([z21] : List Int)) ≤ 9223372036854775807) <|
  some (v8 ++ (toB ([z21] : List Int)))))) fun (z12 : Str) =>
  r01_Cleaned_L1 m s kk z12 (w64 (v9 + 1))) (
  some v8)
def r01_Cleaned (m : Nat) (s : Str) : Option (Str) :=
 Option.bind (
 r01_Cleaned_L1 m s m [] 0) fun (z5 : Str) =>
 some z5
def r01_Clean (m : Nat) (s : Str) : Option (Str × Int) :=
 cond (decide (4000 < (ln s))) (
 some ([], 28)) (
 Option.bind (r01_Cleaned m s) fun y7 =>
 some (y7, 0))
structure TToken where
 Kind : Int
 Text : Str
 Num : Int
 Unit : Str
 Flag : Bool
instance : Inhabited TToken := ⟨⟨default, default, default, default, default⟩⟩
def r02_has (s : Str) (i : Int) (x_ : Str) : Option (Bool) :=
 chk ((decide ((ln x_) ≤ (w64 ((ln s) - i)))) = true → 0 ≤ i ∧ i ≤ (w64 (i + (ln x_))) ∧ (w64 (i + (ln x_))) ≤ ln s) <|
 lt (cond (decide ((ln x_) ≤ (w64 ((ln s) - i)))) ((sub s i (w64 (i + (ln x_)))) == x_) false) fun x4 =>
 some x4
def r02_Past_L2 (m : Nat) (s : Str) : Nat → Int → Option (Int)
 | 0, _ => none
 | kk + 1, v11 =>
  Option.bind (cond (decide (v11 < (ln s))) (r02_has s v11 [42, 47]) (some default)) fun y12 =>
  lt (cond (decide (v11 < (ln s))) (!y12) false) fun x13 =>
  cond x13 (
  r02_Past_L2 m s kk (w64 (v11 + 1))) (
  some v11)
def r02_Past_L1 (m : Nat) (s : Str) : Nat → Int → Option (Int)
 | 0, _ => none
 | kk + 1, v4 =>
  Option.bind (r02_has s v4 [47, 42]) fun y5 =>
  cond y5 (
  Option.bind (
  r02_Past_L2 m s m (w64 (v4 + 2))) fun (z10 : Int) =>
  lt (if w64 (z10 + 2) < ln s then w64 (z10 + 2) else ln s) fun x20 =>
  r02_Past_L1 m s kk x20) (
  some v4)
def r02_Past (m : Nat) (s : Str) (i : Int) : Option (Int) :=
 Option.bind (
 r02_Past_L1 m s m i) fun (z3 : Int) =>
 some z3
def r02_Space (c_ : Int) : Bool :=
 lt (cond (cond (c_ == 10) true (c_ == 9)) true (c_ == 32)) fun x3 =>
 x3
def r02_At (s : Str) (i : Int) : Option (Int) :=
 cond (decide (i < (ln s))) (
 chk (0 ≤ i ∧ i < ln s) <|
 some (bat s i)) (
 some 0)
def r02_spaces_L1 (m : Nat) (s : Str) : Nat → Int → Option (Int)
 | 0, _ => none
 | kk + 1, v4 =>
  Option.bind (r02_At s v4) fun y5 =>
  cond (r02_Space y5) (
  r02_spaces_L1 m s kk (w64 (v4 + 1))) (
  some v4)
def r02_spaces (m : Nat) (s : Str) (i : Int) : Option (Int) :=
 Option.bind (
 r02_spaces_L1 m s m i) fun (z3 : Int) =>
 some z3
def r02_lost  : Str :=
 toB ([239, 191, 189] : List Int)
def r02_Digit (c_ : Int) : Bool :=
 lt (cond (decide (48 ≤ c_)) (decide (c_ ≤ 57)) false) fun x3 =>
 x3
def r01_Small (c_ : Int) : Int :=
 lt (cond (decide (65 ≤ c_)) (decide (c_ ≤ 90)) false) fun x3 =>
 cond x3 (
 wu8 ((wu8 (c_ - 65)) + 97)) (
 c_)
def r02_Hex (c_ : Int) : Int :=
 cond (r02_Digit c_) (
 w64 (wu8 (c_ - 48))) (
 lt (cond (decide (97 ≤ (r01_Small c_))) (decide ((r01_Small c_) ≤ 102)) false) fun x9 =>
 cond x9 (
 lt (w64 ((w64 (wu8 ((r01_Small c_) - 97))) + 10)) fun x12 =>
 x12) (
 (-1)))
def r02_UTF8 (n_ : Int) : Str :=
 lt (cond (n_ == 0) true (cond (decide (55296 ≤ n_)) (decide (n_ ≤ 57343)) false)) fun x3 =>
 cond (cond x3 true (decide (1114111 < n_))) (
 r02_lost) (
 cond (decide (n_ < 128)) (
 toB ([wu8 n_] : List Int)) (
 cond (decide (n_ < 2048)) (
 lt (toB ([wu8 (w64 (192 + (w64 (Int.tdiv n_ 64)))), wu8 (w64 (128 + (Int.tmod n_ 64)))] : List Int)) fun x26 =>
 x26) (
 cond (decide (n_ < 65536)) (
 lt (wu8 (w64 (224 + (w64 (Int.tdiv n_ 4096))))) fun x31 =>
 lt (w64 (128 + (Int.tmod (w64 (Int.tdiv n_ 64)) 64))) fun x32 =>
 lt (toB ([x31, wu8 x32, wu8 (w64 (128 + (Int.tmod n_ 64)))] : List Int)) fun x39 =>
 x39) (
 lt (wu8 (w64 (240 + (w64 (Int.tdiv n_ 262144))))) fun x42 =>
 lt (w64 (128 + (Int.tmod (w64 (Int.tdiv n_ 4096)) 64))) fun x43 =>
 lt (w64 (128 + (Int.tmod (w64 (Int.tdiv n_ 64)) 64))) fun x44 =>
 lt (toB ([x42, wu8 x43, wu8 x44, wu8 (w64 (128 + (Int.tmod n_ 64)))] : List Int)) fun x51 =>
 x51))))
def r02_Escaped_L1 (m : Nat) (s : Str) (i : Int) : Nat → Int → Int → Option (Int × Int)
 | 0, _, _ => none
 | kk + 1, v20, v21 =>
  lt (cond (decide (v21 < (ln s))) (decide (v21 < (w64 ((w64 (i + 1)) + 6)))) false) fun x22 =>
  chk (x22 = true → 0 ≤ v21 ∧ v21 < ln s) <|
  lt (cond x22 (decide (0 ≤ (r02_Hex (bat s v21)))) false) fun x24 =>
  cond x24 (
  chk (0 ≤ v21 ∧ v21 < ln s) <|
  lt (w64 ((w64 (16 * v20)) + (r02_Hex (bat s v21)))) fun x28 =>
  r02_Escaped_L1 m s i kk x28 (w64 (v21 + 1))) (
  some (v20, v21))
def r02_Escaped (m : Nat) (s : Str) (i : Int) : Option (Str × Int) :=
 cond (decide ((ln s) ≤ (w64 (i + 1)))) (
 some (r02_lost, w64 (i + 1))) (
 chk (0 ≤ (w64 (i + 1)) ∧ (w64 (i + 1)) < ln s) <|
 lt (decide ((r02_Hex (bat s (w64 (i + 1)))) < 0)) fun x10 =>
 cond x10 (
 chk (0 ≤ (w64 (i + 1)) ∧ (w64 (i + 1)) ≤ (w64 ((w64 (i + 1)) + 1)) ∧ (w64 ((w64 (i + 1)) + 1)) ≤ ln s) <|
 lt (sub s (w64 (i + 1)) (w64 ((w64 (i + 1)) + 1))) fun x14 =>
 some (x14, w64 ((w64 (i + 1)) + 1))) (
 Option.bind (
 r02_Escaped_L1 m s i m 0 (w64 (i + 1))) fun (z19 : Int × Int) =>
 Option.bind (
 Option.bind (r02_At s z19.2) fun y36 =>
 cond (r02_Space y36) (
 some (w64 (z19.2 + 1))) (
 some z19.2)) fun (z35 : Int) =>
 some ((r02_UTF8 z19.1), z35)))
def r02_quoted_L1 (m : Nat) (s : Str) (i : Int) : Nat → Int → Str → Option (Sum (TToken × Int) (Int × Str))
 | 0, _, _ => none
 | kk + 1, v19, v20 =>
  cond (decide (v19 < (ln s))) (
  chk (0 ≤ v19 ∧ v19 < ln s) <|
  cond ((bat s v19) == (bat s i)) (
  some (.inl ((TToken.mk 5 v20 0 [] false), w64 (v19 + 1)))) (
  cond ((bat s v19) == 10) (
  some (.inl ((TToken.mk 6 [] 0 [] false), v19))) (
  lt (cond ((bat s v19) == 92) ((w64 (v19 + 1)) == (ln s)) false) fun x40 =>
  cond x40 (
  r02_quoted_L1 m s i kk (w64 (v19 + 1)) v20) (
  chk (((bat s v19) == 92) = true → 0 ≤ (w64 (v19 + 1)) ∧ (w64 (v19 + 1)) < ln s) <|
  lt (cond ((bat s v19) == 92) ((bat s (w64 (v19 + 1))) == 10) false) fun x46 =>
  cond x46 (
  r02_quoted_L1 m s i kk (w64 (v19 + 2)) v20) (
  cond ((bat s v19) == 92) (
  Option.bind (r02_Escaped m s v19) fun y53 =>
  chk (ln v20 + ln y53.1 ≤ 9223372036854775807) <|
  r02_quoted_L1 m s i kk y53.2 (v20 ++ y53.1)) (
  chk (0 ≤ v19 ∧ v19 ≤ (w64 (v19 + 1)) ∧ (w64 (v19 + 1)) ≤ ln s) <|
  chk (ln v20 + ln (sub s v19 (w64 (v19 + 1))) ≤ 9223372036854775807) <|
  r02_quoted_L1 m s i kk (w64 (v19 + 1)) (v20 ++ (sub s v19 (w64 (v19 + 1)))))))))) (
  some (.inr (v19, v20)))
def r02_quoted (m : Nat) (s : Str) (i : Int) : Option (TToken × Int) :=
 chk (0 ≤ i ∧ i < ln s) <|
 Option.bind (
 r02_quoted_L1 m s i m (w64 (i + 1)) []) fun (z16 : Sum (TToken × Int) (Int × Str)) => sumK z16 fun s_z16 =>
 some ((TToken.mk 5 s_z16.2 0 [] false), s_z16.1)
def r02_Starts (c_ : Int) : Bool :=
 lt (cond (decide (97 ≤ (r01_Small c_))) (decide ((r01_Small c_) ≤ 122)) false) fun x5 =>
 lt (cond (cond x5 true (c_ == 95)) true (decide (128 ≤ c_))) fun x6 =>
 x6
def r02_Letter (c_ : Int) : Bool :=
 lt (cond (cond (r02_Starts c_) true (r02_Digit c_)) true (c_ == 45)) fun x3 =>
 x3
def r02_Escape (s : Str) (i : Int) : Option (Bool) :=
 Option.bind (r02_At s i) fun y3 =>
 Option.bind (cond (y3 == 92) (r02_At s (w64 (i + 1))) (some default)) fun y4 =>
 some (cond (y3 == 92) (y4 != 10) false)
def r02_Named_L1 (m : Nat) (s : Str) : Nat → Int → Str → Option (Str × Int)
 | 0, _, _ => none
 | kk + 1, v5, v6 =>
  chk ((decide (v5 < (ln s))) = true → 0 ≤ v5 ∧ v5 < ln s) <|
  lt (cond (decide (v5 < (ln s))) (r02_Letter (bat s v5)) false) fun x8 =>
  cond x8 (
  chk (0 ≤ v5 ∧ v5 ≤ (w64 (v5 + 1)) ∧ (w64 (v5 + 1)) ≤ ln s) <|
  chk (ln v6 + ln (sub s v5 (w64 (v5 + 1))) ≤ 9223372036854775807) <|
  r02_Named_L1 m s kk (w64 (v5 + 1)) (v6 ++ (sub s v5 (w64 (v5 + 1))))) (
  Option.bind (cond (decide (v5 < (ln s))) (r02_Escape s v5) (some default)) fun y17 =>
  cond (cond (decide (v5 < (ln s))) y17 false) (
  Option.bind (r02_Escaped m s v5) fun y20 =>
  chk (ln v6 + ln y20.1 ≤ 9223372036854775807) <|
  r02_Named_L1 m s kk y20.2 (v6 ++ y20.1)) (
  some (v6, v5)))
def r02_Named (m : Nat) (s : Str) (i : Int) : Option (Str × Int) :=
 r02_Named_L1 m s m i []
def r02_NameAt (s : Str) (i : Int) : Option (Bool) :=
 Option.bind (r02_At s i) fun y3 =>
 cond (y3 == 45) (
 Option.bind (r02_At s (w64 (i + 1))) fun y6 =>
 Option.bind (cond (r02_Starts y6) (some default) (r02_At s (w64 (i + 1)))) fun y7 =>
 Option.bind (cond (cond (r02_Starts y6) true (y7 == 45)) (some default) (r02_Escape s (w64 (i + 1)))) fun y8 =>
 lt (cond (cond (r02_Starts y6) true (y7 == 45)) true y8) fun x9 =>
 some x9) (
 Option.bind (r02_At s i) fun y12 =>
 Option.bind (cond (r02_Starts y12) (some default) (r02_Escape s i)) fun y13 =>
 some (cond (r02_Starts y12) true y13))
def r02_NumberAt (s : Str) (i : Int) : Option (Bool) :=
 Option.bind (
 Option.bind (r02_At s i) fun y4 =>
 cond (cond (y4 == 43) true (y4 == 45)) (
 some (w64 (i + 1))) (
 some i)) fun (z3 : Int) =>
 Option.bind (
 Option.bind (r02_At s z3) fun y13 =>
 cond (y13 == 46) (
 some (w64 (z3 + 1))) (
 some z3)) fun (z12 : Int) =>
 Option.bind (r02_At s z12) fun y19 =>
 some (r02_Digit y19)
def r02_digits_L1 (m : Nat) (s : Str) : Nat → Int → Option (Int)
 | 0, _ => none
 | kk + 1, v4 =>
  Option.bind (r02_At s v4) fun y5 =>
  cond (r02_Digit y5) (
  r02_digits_L1 m s kk (w64 (v4 + 1))) (
  some v4)
def r02_digits (m : Nat) (s : Str) (i : Int) : Option (Int) :=
 Option.bind (
 r02_digits_L1 m s m i) fun (z3 : Int) =>
 some z3
def r02_NumberEnd (m : Nat) (s : Str) (i : Int) : Option (Int × Bool) :=
 Option.bind (
 Option.bind (r02_At s i) fun y4 =>
 cond (cond (y4 == 43) true (y4 == 45)) (
 some (w64 (i + 1))) (
 some i)) fun (z3 : Int) =>
 Option.bind (r02_digits m s z3) fun y12 =>
 Option.bind (
 Option.bind (r02_At s y12) fun y18 =>
 Option.bind (cond (y18 == 46) (r02_At s (w64 (y12 + 1))) (some default)) fun y19 =>
 cond (cond (y18 == 46) (r02_Digit y19) false) (
 Option.bind (r02_digits m s (w64 (y12 + 1))) fun y24 =>
 some (y24, false)) (
 some (y12, true))) fun (z17 : Int × Bool) =>
 Option.bind (
 Option.bind (r02_At s z17.1) fun y29 =>
 cond (cond (y29 == 101) true (y29 == 69)) (
 Option.bind (
 Option.bind (r02_At s (w64 (z17.1 + 1))) fun y37 =>
 cond (cond (y37 == 43) true (y37 == 45)) (
 some (w64 ((w64 (z17.1 + 1)) + 1))) (
 some (w64 (z17.1 + 1)))) fun (z36 : Int) =>
 Option.bind (r02_At s z36) fun y45 =>
 cond (r02_Digit y45) (
 Option.bind (r02_digits m s z36) fun y50 =>
 some (y50, false)) (
 some (z17.1, z17.2))) (
 some (z17.1, z17.2))) fun (z28 : Int × Bool) =>
 some (z28.1, z28.2)
def r02_Thousandths_L1 (m : Nat) (s : Str) : Nat → Str → Int → Option (Str × Int)
 | 0, _, _ => none
 | kk + 1, v16, v17 =>
  Option.bind (r02_At s v17) fun y18 =>
  cond (r02_Digit y18) (
  chk (0 ≤ v17 ∧ v17 ≤ (w64 (v17 + 1)) ∧ (w64 (v17 + 1)) ≤ ln s) <|
  chk (ln v16 + ln (sub s v17 (w64 (v17 + 1))) ≤ 9223372036854775807) <|
  r02_Thousandths_L1 m s kk (v16 ++ (sub s v17 (w64 (v17 + 1)))) (w64 (v17 + 1))) (
  some (v16, v17))
def r02_Thousandths_L2 (m : Nat) (s : Str) : Nat → Str → Int → Int → Option (Str × Int × Int)
 | 0, _, _, _ => none
 | kk + 1, v35, v36, v37 =>
  Option.bind (r02_At s v37) fun y38 =>
  cond (r02_Digit y38) (
  chk (0 ≤ v37 ∧ v37 ≤ (w64 (v37 + 1)) ∧ (w64 (v37 + 1)) ≤ ln s) <|
  chk (ln v35 + ln (sub s v37 (w64 (v37 + 1))) ≤ 9223372036854775807) <|
  r02_Thousandths_L2 m s kk (v35 ++ (sub s v37 (w64 (v37 + 1)))) (w64 (v36 - 1)) (w64 (v37 + 1))) (
  some (v35, v36, v37))
def r02_Thousandths_L3 (m : Nat) (s : Str) : Nat → Int → Int → Option (Int)
 | 0, _, _ => none
 | kk + 1, v70, v71 =>
  cond (decide (v70 < (ln s))) (
  chk (0 ≤ v70 ∧ v70 < ln s) <|
  lt (w64 ((w64 (10 * v71)) + (w64 (wu8 ((bat s v70) - 48))))) fun x75 =>
  r02_Thousandths_L3 m s kk (w64 (v70 + 1)) (if x75 < 10000 then x75 else 10000)) (
  some v71)
def r02_Thousandths_L4 (m : Nat) (z29 : Str × Int × Int) (z52 : Int) : Nat → Int → Int → Option (Int)
 | 0, _, _ => none
 | kk + 1, v99, v100 =>
  lt (cond (decide (v100 < (w64 ((ln z29.1) + z52)))) (decide (v100 < (ln z29.1))) false) fun x101 =>
  cond x101 (
  chk (0 ≤ v100 ∧ v100 < ln z29.1) <|
  lt (w64 ((w64 (10 * v99)) + (w64 (wu8 ((bat z29.1 v100) - 48))))) fun x105 =>
  lt (if x105 < 1000000000000 then x105 else 1000000000000) fun x106 =>
  r02_Thousandths_L4 m z29 z52 kk x106 (w64 (v100 + 1))) (
  some v99)
def r02_Thousandths_L5 (m : Nat)  : Nat → Int → Int → Option (Int)
 | 0, _, _ => none
 | kk + 1, v114, v115 =>
  lt (cond (decide (0 < v114)) (decide (0 < v115)) false) fun x116 =>
  lt (cond x116 (decide (v115 < 1000000000000)) false) fun x117 =>
  cond x117 (
  lt (if w64 (10 * v115) < 1000000000000 then w64 (10 * v115) else 1000000000000) fun x120 =>
  r02_Thousandths_L5 m  kk (w64 (v114 - 1)) x120) (
  some v115)
def r02_Thousandths (m : Nat) (s : Str) : Option (Int) :=
 chk (0 ≤ (0 : Int) ∧ (0 : Int) < ln s) <|
 Option.bind (
 lt (cond ((bat s 0) == 43) true ((bat s 0) == 45)) fun x9 =>
 cond x9 (
 some 1) (
 some 0)) fun (z8 : Int) =>
 Option.bind (
 r02_Thousandths_L1 m s m [] z8) fun (z15 : Str × Int) =>
 Option.bind (
 Option.bind (r02_At s z15.2) fun y30 =>
 cond (y30 == 46) (
 r02_Thousandths_L2 m s m z15.1 3 (w64 (z15.2 + 1))) (
 some (z15.1, 3, z15.2))) fun (z29 : Str × Int × Int) =>
 Option.bind (
 cond (decide (z29.2.2 < (ln s))) (
 chk (0 ≤ (w64 (z29.2.2 + 1)) ∧ (w64 (z29.2.2 + 1)) < ln s) <|
 Option.bind (
 lt (cond ((bat s (w64 (z29.2.2 + 1))) == 43) true ((bat s (w64 (z29.2.2 + 1))) == 45)) fun x61 =>
 cond x61 (
 some (w64 ((w64 (z29.2.2 + 1)) + 1))) (
 some (w64 (z29.2.2 + 1)))) fun (z60 : Int) =>
 Option.bind (
 r02_Thousandths_L3 m s m z60 0) fun (z69 : Int) =>
 Option.bind (
 cond ((bat s (w64 (z29.2.2 + 1))) == 45) (
 some (w64 (0 - z69))) (
 some z69)) fun (z82 : Int) =>
 some (w64 (z29.2.1 + z82))) (
 some z29.2.1)) fun (z52 : Int) =>
 Option.bind (
 r02_Thousandths_L4 m z29 z52 m 0 0) fun (z96 : Int) =>
 Option.bind (
 r02_Thousandths_L5 m  m z52 z96) fun (z113 : Int) =>
 cond ((bat s 0) == 45) (
 some (w64 (0 - z113))) (
 some z113)
def r02_numeric (m : Nat) (s : Str) (i : Int) : Option (TToken × Int) :=
 Option.bind (r02_NumberEnd m s i) fun y6 =>
 chk (0 ≤ i ∧ i ≤ y6.1 ∧ y6.1 ≤ ln s) <|
 Option.bind (r02_Thousandths m (sub s i y6.1)) fun y10 =>
 Option.bind (
 Option.bind (r02_NameAt s y6.1) fun y19 =>
 cond y19 (
 Option.bind (r02_Named m s y6.1) fun y26 =>
 some (y26.2, 12, y26.1, y6.2)) (
 Option.bind (r02_At s y6.1) fun y33 =>
 cond (y33 == 37) (
 some (w64 (y6.1 + 1), 11, [], false)) (
 some (y6.1, 10, [], y6.2)))) fun (z18 : Int × Int × Str × Bool) =>
 some ((TToken.mk z18.2.1 [] y10 z18.2.2.1 z18.2.2.2), z18.1)
def r01_Lower_L1 (m : Nat) (s : Str) : Nat → Int → (List Int) → Option (List Int)
 | 0, _, _ => none
 | kk + 1, v14, v15 =>
  cond (decide (v14 < (ln (ofB s)))) (
  chk (0 ≤ v14 ∧ v14 < ln (ofB s)) <|
  lt (seti v15 v14 (r01_Small (gi v15 v14))) fun q23 =>
  r01_Lower_L1 m s kk (w64 (v14 + 1)) q23) (
  some v15)
def r01_Lower (m : Nat) (s : Str) : Option (Str) :=
 Option.bind (
 r01_Lower_L1 m s m 0 (ofB s)) fun (z11 : List Int) =>
 some (toB z11)
def r01_Alike (m : Nat) (a_ : Str) (b_ : Str) : Option (Bool) :=
 Option.bind (r01_Lower m a_) fun y3 =>
 Option.bind (r01_Lower m b_) fun y4 =>
 some (y3 == y4)
def r02_bad_L1 (m : Nat) (s : Str) : Nat → Int → Option (Int)
 | 0, _ => none
 | kk + 1, v7 =>
  chk ((decide (v7 < (ln s))) = true → 0 ≤ v7 ∧ v7 < ln s) <|
  lt (cond (decide (v7 < (ln s))) ((bat s v7) != 41) false) fun x9 =>
  cond x9 (
  Option.bind (r02_Escape s v7) fun y12 =>
  cond y12 (
  Option.bind (r02_Escaped m s v7) fun y15 =>
  r02_bad_L1 m s kk y15.2) (
  r02_bad_L1 m s kk (w64 (v7 + 1)))) (
  some v7)
def r02_bad (m : Nat) (s : Str) (i : Int) : Option (TToken × Int) :=
 Option.bind (
 r02_bad_L1 m s m i) fun (z6 : Int) =>
 lt (if w64 (z6 + 1) < ln s then w64 (z6 + 1) else ln s) fun x23 =>
 some ((TToken.mk 8 [] 0 [] false), x23)
def r02_Unprintable (c_ : Int) : Bool :=
 lt (cond (cond (decide (c_ ≤ 8)) true (c_ == 11)) true (cond (decide (14 ≤ c_)) (decide (c_ ≤ 31)) false)) fun x3 =>
 cond x3 true (c_ == 127)
def r02_url_L1 (m : Nat) (s : Str) : Nat → Int → Str → Option (Sum (TToken × Int) (Int × Str))
 | 0, _, _ => none
 | kk + 1, v17, v18 =>
  chk ((decide (v17 < (ln s))) = true → 0 ≤ v17 ∧ v17 < ln s) <|
  lt (cond (decide (v17 < (ln s))) ((bat s v17) != 41) false) fun x20 =>
  cond x20 (
  chk (0 ≤ v17 ∧ v17 < ln s) <|
  cond (r02_Space (bat s v17)) (
  Option.bind (r02_spaces m s v17) fun y28 =>
  chk ((decide (y28 < (ln s))) = true → 0 ≤ y28 ∧ y28 < ln s) <|
  lt (cond (decide (y28 < (ln s))) ((bat s y28) != 41) false) fun x32 =>
  cond x32 (
  Option.bind (r02_bad m s y28) fun y35 =>
  some (.inl (y35.1, y35.2))) (
  r02_url_L1 m s kk y28 v18)) (
  lt (cond ((bat s v17) == 34) true ((bat s v17) == 39)) fun x43 =>
  lt (cond (cond x43 true ((bat s v17) == 40)) true (r02_Unprintable (bat s v17))) fun x44 =>
  Option.bind (cond x44 (some default) (cond ((bat s v17) == 92) (r02_Escape s v17) (some default))) fun y45 =>
  lt (cond x44 true (cond ((bat s v17) == 92) (!y45) false)) fun x46 =>
  cond x46 (
  Option.bind (r02_bad m s v17) fun y49 =>
  some (.inl (y49.1, y49.2))) (
  cond ((bat s v17) == 92) (
  Option.bind (r02_Escaped m s v17) fun y58 =>
  chk (ln v18 + ln y58.1 ≤ 9223372036854775807) <|
  r02_url_L1 m s kk y58.2 (v18 ++ y58.1)) (
  chk (0 ≤ v17 ∧ v17 ≤ (w64 (v17 + 1)) ∧ (w64 (v17 + 1)) ≤ ln s) <|
  chk (ln v18 + ln (sub s v17 (w64 (v17 + 1))) ≤ 9223372036854775807) <|
  r02_url_L1 m s kk (w64 (v17 + 1)) (v18 ++ (sub s v17 (w64 (v17 + 1)))))))) (
  some (.inr (v17, v18)))
def r02_url (m : Nat) (s : Str) (i : Int) : Option (TToken × Int) :=
 Option.bind (
 Option.bind (r02_spaces m s i) fun y14 =>
 r02_url_L1 m s m y14 []) fun (z13 : Sum (TToken × Int) (Int × Str)) => sumK z13 fun s_z13 =>
 lt (if w64 (s_z13.1 + 1) < ln s then w64 (s_z13.1 + 1) else ln s) fun x81 =>
 some ((TToken.mk 7 s_z13.2 0 [] false), x81)
def r02_word (m : Nat) (s : Str) (i : Int) : Option (TToken × Int) :=
 Option.bind (r02_Named m s i) fun y6 =>
 Option.bind (r02_At s y6.2) fun y9 =>
 cond (y9 != 40) (
 some ((TToken.mk 1 y6.1 0 [] false), y6.2)) (
 Option.bind (
 Option.bind (r01_Alike m y6.1 [117, 114, 108]) fun y19 =>
 cond y19 (
 Option.bind (r02_spaces m s (w64 (y6.2 + 1))) fun y22 =>
 Option.bind (r02_At s y22) fun y23 =>
 cond (cond (y23 != 34) (y23 != 39) false) (
 Option.bind (r02_url m s (w64 (y6.2 + 1))) fun y28 =>
 some (.inl (y28.1, y28.2))) (
 some (.inr ()))) (
 some (.inr ()))) fun (z18 : Sum (TToken × Int) (Unit)) => sumK z18 fun s_z18 =>
 some ((TToken.mk 2 y6.1 0 [] false), w64 (y6.2 + 1)))
def r02_mark (c_ : Int) : Int :=
 cond (c_ == 58) (
 16) (
 cond (c_ == 59) (
 17) (
 cond (c_ == 44) (
 18) (
 cond (c_ == 91) (
 19) (
 cond (c_ == 93) (
 20) (
 cond (c_ == 40) (
 21) (
 cond (c_ == 41) (
 22) (
 cond (c_ == 123) (
 23) (
 cond (c_ == 125) (
 24) (
 0)))))))))
def r02_One (m : Nat) (s : Str) (i : Int) : Option (TToken × Int) :=
 chk (0 ≤ i ∧ i < ln s) <|
 cond (r02_Space (bat s i)) (
 Option.bind (r02_spaces m s i) fun y11 =>
 some ((TToken.mk 13 [] 0 [] false), y11)) (
 lt (cond ((bat s i) == 34) true ((bat s i) == 39)) fun x18 =>
 cond x18 (
 Option.bind (r02_quoted m s i) fun y21 =>
 some (y21.1, y21.2)) (
 chk ((decide ((w64 (i + 1)) < (ln s))) = true → ((bat s i) == 35) = true → 0 ≤ (w64 (i + 1)) ∧ (w64 (i + 1)) < ln s) <|
 Option.bind (cond ((bat s i) == 35) (cond (cond (decide ((w64 (i + 1)) < (ln s))) (r02_Letter (bat s (w64 (i + 1)))) false) (some default) (r02_Escape s (w64 (i + 1)))) (some default)) fun y29 =>
 lt (cond ((bat s i) == 35) (cond (cond (decide ((w64 (i + 1)) < (ln s))) (r02_Letter (bat s (w64 (i + 1)))) false) true y29) false) fun x30 =>
 cond x30 (
 Option.bind (r02_Named m s (w64 (i + 1))) fun y33 =>
 Option.bind (r02_NameAt s (w64 (i + 1))) fun y36 =>
 some ((TToken.mk 4 y33.1 0 [] y36), y33.2)) (
 Option.bind (r02_NumberAt s i) fun y43 =>
 cond y43 (
 Option.bind (r02_numeric m s i) fun y46 =>
 some (y46.1, y46.2)) (
 Option.bind (r02_has s i [45, 45, 62]) fun y53 =>
 cond y53 (
 some ((TToken.mk 15 [] 0 [] false), w64 (i + 3))) (
 Option.bind (r02_has s i [60, 33, 45, 45]) fun y62 =>
 cond y62 (
 some ((TToken.mk 14 [] 0 [] false), w64 (i + 4))) (
 Option.bind (cond ((bat s i) == 64) (r02_NameAt s (w64 (i + 1))) (some default)) fun y71 =>
 cond (cond ((bat s i) == 64) y71 false) (
 Option.bind (r02_Named m s (w64 (i + 1))) fun y74 =>
 some ((TToken.mk 3 y74.1 0 [] false), y74.2)) (
 Option.bind (r02_NameAt s i) fun y83 =>
 cond y83 (
 Option.bind (r02_word m s i) fun y86 =>
 some (y86.1, y86.2)) (
 cond ((r02_mark (bat s i)) != 0) (
 some ((TToken.mk (r02_mark (bat s i)) [] 0 [] false), w64 (i + 1))) (
 chk (0 ≤ i ∧ i ≤ (w64 (i + 1)) ∧ (w64 (i + 1)) ≤ ln s) <|
 some ((TToken.mk 9 (sub s i (w64 (i + 1))) 0 [] false), w64 (i + 1)))))))))))
structure TA2_int where
 e0 : Int
 e1 : Int
instance : Inhabited TA2_int := ⟨⟨default, default⟩⟩
def r02_Cut_L1 (m : Nat) (s : Str) : Nat → (List TToken) → (List TA2_int) → Int → Option ((List TToken) × (List TA2_int))
 | 0, _, _, _ => none
 | kk + 1, v13, v15, v17 =>
  cond (decide (v17 < (ln s))) (
  Option.bind (r02_One m s v17) fun y20 =>
  chk (ln v13 + ln ([y20.1] : List TToken) ≤ 1099511627776) <|
  lt (v13 ++ ([y20.1] : List TToken)) fun q37 =>
  chk (ln v15 + ln ([(TA2_int.mk v17 y20.2)] : List TA2_int) ≤ 1099511627776) <|
  lt (v15 ++ ([(TA2_int.mk v17 y20.2)] : List TA2_int)) fun q48 =>
  Option.bind (r02_Past m s y20.2) fun y54 =>
  r02_Cut_L1 m s kk q37 q48 y54) (
  some (v13, v15))
def r02_Cut (m : Nat) (s : Str) : Option ((List TToken) × (List TA2_int)) :=
 Option.bind (
 Option.bind (r02_Past m s 0) fun y8 =>
 r02_Cut_L1 m s m ([] : List TToken) ([] : List TA2_int) y8) fun (z7 : (List TToken) × (List TA2_int)) =>
 some (z7.1, z7.2)
def r02_Tokens (m : Nat) (s : Str) : Option ((List TToken) × Int) :=
 Option.bind (r01_Clean m s) fun y3 =>
 cond (y3.2 != 0) (
 some (([] : List TToken), y3.2)) (
 Option.bind (r02_Cut m y3.1) fun y13 =>
 cond (decide (1500 < (ln y13.1))) (
 some (([] : List TToken), 4)) (
 some (y13.1, 0)))
inductive TValue where
 | mk (Token : TToken) (List_ : List TValue)
def TValue.Token : TValue → TToken
 | .mk x _ => x
def TValue.List_ : TValue → List TValue
 | .mk _ x => x
instance : Inhabited TValue := ⟨.mk default default⟩
def r04_Closer (kind : Int) : Int :=
 cond (kind == 19) (
 20) (
 lt (
 cond (kind == 21) (
 kind == 21) (
 kind == 2)) fun (z9 : Bool) =>
 cond z9 (
 22) (
 cond (kind == 23) (
 24) (
 0)))
def r04_values_L1 (m : Nat) (l_ : List TToken) (closer : Int) (left : Int) (rec_r04_values : (List TToken) → Int → Int → Int → Option ((List TValue) × Int)) : Nat → Int → (List TValue) → Option (Sum ((List TValue) × Int) (Int × (List TValue)))
 | 0, _, _ => none
 | kk + 1, v7, v8 =>
  chk ((closer == 0) = false → (decide (v7 < (ln l_))) = true → 0 ≤ v7 ∧ v7 < ln l_) <|
  lt (cond (decide (v7 < (ln l_))) (cond (closer == 0) true (((gi l_ v7).Kind) != closer)) false) fun x11 =>
  cond x11 (
  chk (0 ≤ v7 ∧ v7 < ln l_) <|
  Option.bind (
  cond ((r04_Closer ((gi l_ v7).Kind)) != 0) (
  cond (left == 0) (
  some (.inl (.inl (([] : List TValue), (-1))))) (
  Option.bind (rec_r04_values l_ (w64 (v7 + 1)) (r04_Closer ((gi l_ v7).Kind)) (w64 (left - 1))) fun y36 =>
  cond (decide (y36.2 < 0)) (
  some (.inl (.inl (([] : List TValue), (-1))))) (
  some (.inr (y36.2, y36.1))))) (
  some (.inr (w64 (v7 + 1), ([] : List TValue))))) fun (z24 : Sum (Sum ((List TValue) × Int) (Int × (List TValue))) (Int × (List TValue))) => sumK z24 fun s_z24 =>
  chk (ln v8 + ln ([(TValue.mk (gi l_ v7) s_z24.2)] : List TValue) ≤ 1099511627776) <|
  lt (v8 ++ ([(TValue.mk (gi l_ v7) s_z24.2)] : List TValue)) fun q65 =>
  r04_values_L1 m l_ closer left rec_r04_values kk s_z24.1 q65) (
  some (.inr (v7, v8)))
def r04_values_r (m : Nat) : Nat → (List TToken) → Int → Int → Int → Option ((List TValue) × Int)
 | 0, _, _, _, _ => none
 | k + 1, l_, i, closer, left =>
  Option.bind (
  r04_values_L1 m l_ closer left (r04_values_r m k) m i ([] : List TValue)) fun (z5 : Sum ((List TValue) × Int) (Int × (List TValue))) => sumK z5 fun s_z5 =>
  lt (if w64 (s_z5.1 + 1) < ln l_ then w64 (s_z5.1 + 1) else ln l_) fun x76 =>
  some (s_z5.2, x76)
def r04_values (m : Nat) (l_ : List TToken) (i : Int) (closer : Int) (left : Int) : Option ((List TValue) × Int) := r04_values_r m  m l_ i closer left
def r04_Parsed (m : Nat) (l_ : List TToken) : Option ((List TValue) × Bool) :=
 Option.bind (r04_values m l_ 0 0 16) fun y5 =>
 some (y5.1, decide (0 ≤ y5.2))
def r04_Tokens_L1 (m : Nat) (v_ : List TValue) (rec_r04_Tokens : (List TValue) → Option (List TToken)) : Nat → (List TToken) → Int → Option (List TToken)
 | 0, _, _ => none
 | kk + 1, v9, v11 =>
  cond (decide (v11 < (ln v_))) (
  Option.bind (
  chk (0 ≤ v11 ∧ v11 < ln v_) <|
  chk (ln v9 + ln ([(gi v_ v11).Token] : List TToken) ≤ 1099511627776) <|
  lt (v9 ++ ([(gi v_ v11).Token] : List TToken)) fun q23 =>
  lt ((r04_Closer ((gi v_ v11).Token.Kind)) != 0) fun x31 =>
  cond x31 (
  Option.bind (rec_r04_Tokens ((gi v_ v11).List_)) fun y37 =>
  chk (ln q23 + ln y37 ≤ 1099511627776) <|
  lt (q23 ++ y37) fun q43 =>
  chk (ln q43 + ln ([(TToken.mk (r04_Closer ((gi v_ v11).Token.Kind)) [] 0 [] false)] : List TToken) ≤ 1099511627776) <|
  lt (q43 ++ ([(TToken.mk (r04_Closer ((gi v_ v11).Token.Kind)) [] 0 [] false)] : List TToken)) fun q56 =>
  some q56) (
  some q23)) fun (z14 : List TToken) =>
  r04_Tokens_L1 m v_ rec_r04_Tokens kk z14 (w64 (v11 + 1))) (
  some v9)
def r04_Tokens_r (m : Nat) : Nat → (List TValue) → Option (List TToken)
 | 0, _ => none
 | k + 1, v_ =>
  Option.bind (
  r04_Tokens_L1 m v_ (r04_Tokens_r m k) m ([] : List TToken) 0) fun (z5 : List TToken) =>
  some z5
def r04_Tokens (m : Nat) (v_ : List TValue) : Option (List TToken) := r04_Tokens_r m  m v_
def r04_Parse (m : Nat) (l_ : List TToken) : Option ((List TValue) × Int) :=
 cond (decide (1500 < (ln l_))) (
 some (([] : List TValue), 4)) (
 Option.bind (r04_Parsed m l_) fun y10 =>
 cond (!y10.2) (
 some (([] : List TValue), 20)) (
 Option.bind (r04_Tokens m y10.1) fun y24 =>
 cond (decide (1500 < (ln y24))) (
 some (([] : List TValue), 4)) (
 some (y10.1, 0))))
def r04_Of (m : Nat) (s : Str) : Option (List TValue) :=
 Option.bind (r02_Tokens m s) fun y5 =>
 Option.bind (r04_Parse m y5.1) fun y14 =>
 some y14.1
def parseval_opaque (r_ : Int) (g_ : Int) (b_ : Int) : TColor :=
 (TColor.mk r_ g_ b_ 255)
def parseval_small_L1 (m : Nat) (s : Str) : Nat → Int → (List Int) → Option (List Int)
 | 0, _, _ => none
 | kk + 1, v14, v15 =>
  cond (decide (v14 < (ln (ofB s)))) (
  Option.bind (
  chk (0 ≤ v14 ∧ v14 < ln (ofB s)) <|
  lt (cond (decide (65 ≤ (gi v15 v14))) (decide ((gi v15 v14) ≤ 90)) false) fun x22 =>
  cond x22 (
  lt (seti v15 v14 (wu8 ((wu8 ((gi v15 v14) + 97)) - 65))) fun q29 =>
  some q29) (
  some v15)) fun (z18 : List Int) =>
  parseval_small_L1 m s kk (w64 (v14 + 1)) z18) (
  some v15)
def parseval_small (m : Nat) (s : Str) : Option (Str) :=
 Option.bind (
 parseval_small_L1 m s m 0 (ofB s)) fun (z11 : List Int) =>
 some (toB z11)
def parseval_Named (m : Nat) (name_ : Str) : Option (TColor × Int) :=
 lt (parseval_opaque 0 0 0) fun y9 =>
 lt (parseval_opaque 255 255 255) fun y14 =>
 lt (parseval_opaque 255 0 0) fun y19 =>
 lt (parseval_opaque 0 255 0) fun y24 =>
 lt (parseval_opaque 0 0 255) fun y29 =>
 lt (parseval_opaque 255 255 0) fun y34 =>
 lt (parseval_opaque 128 128 128) fun y39 =>
 Option.bind (parseval_small m name_) fun y48 =>
 lt (x_key ([[98, 108, 97, 99, 107], [119, 104, 105, 116, 101], [114, 101, 100], [108, 105, 109, 101], [98, 108, 117, 101], [121, 101, 108, 108, 111, 119], [103, 114, 97, 121], [116, 114, 97, 110, 115, 112, 97, 114, 101, 110, 116]] : List Str) y48) fun x51 =>
 lt (gi ([y9.Red, y14.Red, y19.Red, y24.Red, y29.Red, y34.Red, y39.Red, 0, 0] : List Int) x51) fun x54 =>
 lt (gi ([y9.Green, y14.Green, y19.Green, y24.Green, y29.Green, y34.Green, y39.Green, 0, 0] : List Int) x51) fun x55 =>
 lt (gi ([y9.Blue, y14.Blue, y19.Blue, y24.Blue, y29.Blue, y34.Blue, y39.Blue, 0, 0] : List Int) x51) fun x56 =>
 lt (gi ([y9.Alpha, y14.Alpha, y19.Alpha, y24.Alpha, y29.Alpha, y34.Alpha, y39.Alpha, 0, 0] : List Int) x51) fun x57 =>
 cond (!(decide (x51 < 8))) (
 some ((TColor.mk 0 0 0 0), 6)) (
 some ((TColor.mk x54 x55 x56 x57), 0))
def strconv_lower (c_ : Int) : Int :=
 ibit .or .u8 c_ 32
def strconv_underscoreOK_L1 (m : Nat) (z7 : Str) (z19 : Int × Int × Bool) : Nat → Int → Int → Option (Sum (Bool) (Int))
 | 0, _, _ => none
 | kk + 1, v37, v38 =>
  cond (decide (v38 < (ln z7))) (
  Option.bind (
  chk (0 ≤ v38 ∧ v38 < ln z7) <|
  lt (cond (decide (48 ≤ (bat z7 v38))) (decide ((bat z7 v38) ≤ 57)) false) fun x43 =>
  lt (cond x43 true (cond (cond z19.2.2 (decide (97 ≤ (strconv_lower (bat z7 v38)))) false) (decide ((strconv_lower (bat z7 v38)) ≤ 102)) false)) fun x44 =>
  cond x44 (
  some (.inr 48)) (
  cond ((bat z7 v38) == 95) (
  cond (v37 != 48) (
  some (.inl (.inl false))) (
  some (.inr 95))) (
  cond (v37 == 95) (
  some (.inl (.inl false))) (
  some (.inr 33))))) fun (z41 : Sum (Sum (Bool) (Int)) (Int)) => sumK z41 fun s_z41 =>
  strconv_underscoreOK_L1 m z7 z19 kk s_z41 (w64 (v38 + 1))) (
  some (.inr v37))
def strconv_underscoreOK (m : Nat) (s : Str) : Option (Bool) :=
 Option.bind (
 chk ((decide (1 ≤ (ln s))) = true → 0 ≤ (0 : Int) ∧ (0 : Int) < ln s) <|
 chk (((bat s 0) == 45) = false → (decide (1 ≤ (ln s))) = true → 0 ≤ (0 : Int) ∧ (0 : Int) < ln s) <|
 lt (cond (decide (1 ≤ (ln s))) (cond ((bat s 0) == 45) true ((bat s 0) == 43)) false) fun x10 =>
 cond x10 (
 chk (0 ≤ (1 : Int) ∧ (1 : Int) ≤ ln s) <|
 some (sub s 1 (ln s))) (
 some s)) fun (z7 : Str) =>
 Option.bind (
 chk ((decide (2 ≤ (ln z7))) = true → 0 ≤ (0 : Int) ∧ (0 : Int) < ln z7) <|
 lt (cond (decide (2 ≤ (ln z7))) ((bat z7 0) == 48) false) fun x21 =>
 chk (x21 = true → 0 ≤ (1 : Int) ∧ (1 : Int) < ln z7) <|
 chk (((strconv_lower (bat z7 1)) == 98) = false → x21 = true → 0 ≤ (1 : Int) ∧ (1 : Int) < ln z7) <|
 chk ((cond ((strconv_lower (bat z7 1)) == 98) true ((strconv_lower (bat z7 1)) == 111)) = false → x21 = true → 0 ≤ (1 : Int) ∧ (1 : Int) < ln z7) <|
 lt (cond x21 (cond (cond ((strconv_lower (bat z7 1)) == 98) true ((strconv_lower (bat z7 1)) == 111)) true ((strconv_lower (bat z7 1)) == 120)) false) fun x25 =>
 cond x25 (
 chk (0 ≤ (1 : Int) ∧ (1 : Int) < ln z7) <|
 some (48, 2, (strconv_lower (bat z7 1)) == 120)) (
 some (94, 0, false))) fun (z19 : Int × Int × Bool) =>
 Option.bind (
 strconv_underscoreOK_L1 m z7 z19 m z19.1 z19.2.1) fun (z36 : Sum (Bool) (Int)) => sumK z36 fun s_z36 =>
 some (s_z36 != 95)
def strconv_ParseUint_2_L1 (m : Nat) (base : Int) (s_z11 : Str × Int) (z74 : Int) (x92 : Int) : Nat → Bool → Int → Int → Option (Sum (Int) (Bool × Int))
 | 0, _, _, _ => none
 | kk + 1, v108, v109, v110 =>
  cond (decide (v110 < (ln (ofB s_z11.1)))) (
  Option.bind (
  chk (0 ≤ v110 ∧ v110 < ln (ofB s_z11.1)) <|
  Option.bind (
  lt (cond ((gi (ofB s_z11.1) v110) == 95) (base == 0) false) fun x120 =>
  cond x120 (
  Option.bind (
  some (.inr (true, v109))) fun r125 => some (.inl r125)) (
  lt (cond (decide (48 ≤ (gi (ofB s_z11.1) v110))) (decide ((gi (ofB s_z11.1) v110) ≤ 57)) false) fun x126 =>
  cond x126 (
  some (.inr (v108, wu8 ((gi (ofB s_z11.1) v110) - 48)))) (
  lt (decide (97 ≤ (strconv_lower (gi (ofB s_z11.1) v110)))) fun x131 =>
  lt (cond x131 (decide ((strconv_lower (gi (ofB s_z11.1) v110)) ≤ 122)) false) fun x132 =>
  cond x132 (
  lt (wu8 ((strconv_lower (gi (ofB s_z11.1) v110)) - 97)) fun x135 =>
  some (.inr (v108, wu8 (x135 + 10)))) (
  none)))) fun (z119 : Sum (Sum (Sum (Int) (Bool × Int)) (Bool × Int)) (Bool × Int)) => sumK z119 fun s_z119 =>
  cond (decide ((wu8 s_z11.2) ≤ s_z119.2)) (
  none) (
  cond (decide (z74 ≤ v109)) (
  none) (
  lt (wu64 ((wu64 (v109 * (wu64 s_z11.2))) + (wu64 s_z119.2))) fun x153 =>
  lt (decide (x153 < (wu64 (v109 * (wu64 s_z11.2))))) fun x156 =>
  lt (cond x156 true (decide ((wu64 (x92 - 1)) < x153))) fun x157 =>
  cond x157 (
  none) (
  some (.inr (s_z119.1, x153)))))) fun (z113 : Sum (Sum (Int) (Bool × Int)) (Bool × Int)) => sumK z113 fun s_z113 =>
  strconv_ParseUint_2_L1 m base s_z11 z74 x92 kk s_z113.1 s_z113.2 (w64 (v110 + 1))) (
  some (.inr (v108, v109)))
def strconv_ParseUint_2 (m : Nat) (s : Str) (base : Int) (bitSize : Int) : Option (Int) :=
 cond (s == []) (
 none) (
 Option.bind (
 lt (cond (decide (2 ≤ base)) (decide (base ≤ 36)) false) fun x12 =>
 cond x12 (
 some (.inr (s, base))) (
 cond (base == 0) (
 chk (0 ≤ (0 : Int) ∧ (0 : Int) < ln s) <|
 cond ((bat s 0) == 48) (
 chk ((decide (3 ≤ (ln s))) = true → 0 ≤ (1 : Int) ∧ (1 : Int) < ln s) <|
 lt (cond (decide (3 ≤ (ln s))) ((strconv_lower (bat s 1)) == 98) false) fun x23 =>
 cond x23 (
 chk (0 ≤ (2 : Int) ∧ (2 : Int) ≤ ln s) <|
 some (.inr (sub s 2 (ln s), 2))) (
 lt (cond (decide (3 ≤ (ln s))) ((strconv_lower (bat s 1)) == 111) false) fun x31 =>
 cond x31 (
 chk (0 ≤ (2 : Int) ∧ (2 : Int) ≤ ln s) <|
 some (.inr (sub s 2 (ln s), 8))) (
 lt (cond (decide (3 ≤ (ln s))) ((strconv_lower (bat s 1)) == 120) false) fun x39 =>
 cond x39 (
 chk (0 ≤ (2 : Int) ∧ (2 : Int) ≤ ln s) <|
 some (.inr (sub s 2 (ln s), 16))) (
 chk (0 ≤ (1 : Int) ∧ (1 : Int) ≤ ln s) <|
 some (.inr (sub s 1 (ln s), 8)))))) (
 some (.inr (s, 10)))) (
 none))) fun (z11 : Sum (Int) (Str × Int)) => sumK z11 fun s_z11 =>
 Option.bind (
 cond (bitSize == 0) (
 some (.inr 64)) (
 lt (cond (decide (bitSize < 0)) true (decide (64 < bitSize))) fun x65 =>
 cond x65 (
 none) (
 some (.inr bitSize)))) fun (z60 : Sum (Int) (Int)) => sumK z60 fun s_z60 =>
 Option.bind (
 cond (s_z11.2 == 10) (
 some 1844674407370955162) (
 cond (s_z11.2 == 16) (
 some 1152921504606846976) (
 chk ((wu64 s_z11.2) ≠ 0) <|
 lt (wu64 (Int.tdiv 18446744073709551615 (wu64 s_z11.2))) fun x86 =>
 some (wu64 (x86 + 1))))) fun (z74 : Int) =>
 chk (0 ≤ (wu64 s_z60)) <|
 lt (wu64 (1 * 2 ^ (Nat.min (wu64 s_z60).toNat 64))) fun x92 =>
 Option.bind (
 strconv_ParseUint_2_L1 m base s_z11 z74 x92 m false 0 0) fun (z99 : Sum (Int) (Bool × Int)) => sumK z99 fun s_z99 =>
 Option.bind (cond s_z99.1 (strconv_underscoreOK m s) (some default)) fun y173 =>
 cond (cond s_z99.1 (!y173) false) (
 none) (
 some s_z99.2))
def strconv_ParseUint (m : Nat) (s : Str) (base : Int) (bitSize : Int) : Option (Int) :=
 Option.bind (strconv_ParseUint_2 m s base bitSize) fun y3 =>
 some y3
def parseval_hash_L1 (m : Nat) (s : Str) : Nat → Str → Int → Option (Str)
 | 0, _, _ => none
 | kk + 1, v16, v17 =>
  cond (decide (v17 < (ln s))) (
  chk (0 ≤ v17 ∧ v17 ≤ (w64 (v17 + 1)) ∧ (w64 (v17 + 1)) ≤ ln s) <|
  chk (ln (sub s v17 (w64 (v17 + 1))) + ln (sub s v17 (w64 (v17 + 1))) ≤ 9223372036854775807) <|
  lt ((sub s v17 (w64 (v17 + 1))) ++ (sub s v17 (w64 (v17 + 1)))) fun x24 =>
  chk (ln v16 + ln x24 ≤ 9223372036854775807) <|
  parseval_hash_L1 m s kk (v16 ++ x24) (w64 (v17 + 1))) (
  some v16)
def parseval_hash_L2 (m : Nat) (z36 : Str) : Nat → Int → Option (Sum (TColor × Bool) (Unit))
 | 0, _ => none
 | kk + 1, v54 =>
  cond (decide (v54 < (ln z36))) (
  chk (0 ≤ v54 ∧ v54 < ln z36) <|
  lt (cond (decide ((bat z36 v54) < 48)) true (decide (57 < (bat z36 v54)))) fun x62 =>
  lt (cond x62 (cond (decide ((bat z36 v54) < 97)) true (decide (102 < (bat z36 v54)))) false) fun x63 =>
  lt (cond x63 (cond (decide ((bat z36 v54) < 65)) true (decide (70 < (bat z36 v54)))) false) fun x64 =>
  cond x64 (
  some (.inl ((TColor.mk 0 0 0 0), false))) (
  parseval_hash_L2 m z36 kk (w64 (v54 + 1)))) (
  some (.inr ()))
def parseval_hash (m : Nat) (s : Str) : Option (TColor × Bool) :=
 Option.bind (
 cond (cond ((ln s) == 3) true ((ln s) == 4)) (
 Option.bind (
 parseval_hash_L1 m s m [] 0) fun (z13 : Str) =>
 some z13) (
 some s)) fun (z6 : Str) =>
 Option.bind (
 cond ((ln z6) == 6) (
 chk (ln z6 + ln [102, 102] ≤ 9223372036854775807) <|
 some (z6 ++ [102, 102])) (
 some z6)) fun (z36 : Str) =>
 cond ((ln z36) != 8) (
 some ((TColor.mk 0 0 0 0), false)) (
 Option.bind (
 parseval_hash_L2 m z36 m 0) fun (z51 : Sum (TColor × Bool) (Unit)) => sumK z51 fun s_z51 =>
 Option.bind (strconv_ParseUint m z36 16 32) fun y78 =>
 some ((TColor.mk (wu8 (Int.fdiv y78 (2 ^ 24))) (wu8 (Int.fdiv y78 (2 ^ 16))) (wu8 (Int.fdiv y78 (2 ^ 8))) (wu8 y78)), true))
def parseval_rgb_1 (t_ : TToken) (u0 : Str) (u1 : List Int) : Option (Str × (List Int)) :=
 cond (t_.Kind == 13) (
 some (u0, u1)) (
 cond (t_.Kind == 10) (
 chk (ln u0 + ln [110] ≤ 9223372036854775807) <|
 chk (ln u1 + ln ([t_.Num] : List Int) ≤ 1099511627776) <|
 lt (u1 ++ ([t_.Num] : List Int)) fun q20 =>
 some (u0 ++ [110], q20)) (
 cond (t_.Kind == 18) (
 chk (ln u0 + ln [44] ≤ 9223372036854775807) <|
 some (u0 ++ [44], u1)) (
 lt (cond (t_.Kind == 9) (t_.Text == [47]) false) fun x33 =>
 cond x33 (
 chk (ln u0 + ln [47] ≤ 9223372036854775807) <|
 some (u0 ++ [47], u1)) (
 chk (ln u0 + ln [120] ≤ 9223372036854775807) <|
 some (u0 ++ [120], u1)))))
def parseval_rgb_2 (i : Int) (u0 : List Int) : Option (Int) :=
 chk (0 ≤ i ∧ i < ln u0) <|
 lt (if w64 (Int.tdiv (gi u0 i) 1000) < 255 then w64 (Int.tdiv (gi u0 i) 1000) else 255) fun x4 =>
 some (wu8 (if 0 < x4 then x4 else 0))
def parseval_rgb_L1 (m : Nat) (l_ : List TValue) : Nat → Int → (List Int) → Str → Option (Str × (List Int))
 | 0, _, _, _ => none
 | kk + 1, v20, v21, v23 =>
  cond (decide (v20 < (ln l_))) (
  chk (0 ≤ v20 ∧ v20 < ln l_) <|
  Option.bind (parseval_rgb_1 ((gi l_ v20).Token) v23 v21) fun y36 =>
  parseval_rgb_L1 m l_ kk (w64 (v20 + 1)) y36.2 y36.1) (
  some (v23, v21))
def parseval_rgb (m : Nat) (l_ : List TValue) : Option (TColor × Bool) :=
 Option.bind (
 parseval_rgb_L1 m l_ m 0 ([] : List Int) []) fun (z16 : Str × (List Int)) =>
 Option.bind (
 Option.bind (
 cond (z16.1 == [110, 110, 110]) (
 some (z16.1 == [110, 110, 110])) (
 some (z16.1 == [110, 44, 110, 44, 110]))) fun (z50 : Bool) =>
 cond z50 (
 chk (ln z16.2 + ln ([1000] : List Int) ≤ 1099511627776) <|
 lt (z16.2 ++ ([1000] : List Int)) fun q63 =>
 some (.inr q63)) (
 Option.bind (
 cond (z16.1 == [110, 110, 110, 47, 110]) (
 some (z16.1 == [110, 110, 110, 47, 110])) (
 lt (z16.1 == [110, 44, 110, 44, 110, 44, 110]) fun x72 =>
 some x72)) fun (z69 : Bool) =>
 cond z69 (
 some (.inr z16.2)) (
 some (.inl ((TColor.mk 0 0 0 0), false))))) fun (z47 : Sum (TColor × Bool) (List Int)) => sumK z47 fun s_z47 =>
 Option.bind (parseval_rgb_2 0 s_z47) fun y90 =>
 Option.bind (parseval_rgb_2 1 s_z47) fun y91 =>
 Option.bind (parseval_rgb_2 2 s_z47) fun y92 =>
 chk (0 ≤ (3 : Int) ∧ (3 : Int) < ln s_z47) <|
 lt (if (gi s_z47 (3 : Int)) < 1000 then (gi s_z47 (3 : Int)) else 1000) fun x94 =>
 lt (w64 (Int.tdiv (w64 ((if 0 < x94 then x94 else 0) * 255)) 1000)) fun x95 =>
 some ((TColor.mk y90 y91 y92 (wu8 x95)), true)
def parseval_color (m : Nat) (v_ : TValue) : Option (TColor × Bool) :=
 Option.bind (
 cond (v_.Token.Kind == 1) (
 Option.bind (parseval_Named m v_.Token.Text) fun y14 =>
 some (.inl (y14.1, y14.2 == 0))) (
 cond (v_.Token.Kind == 4) (
 Option.bind (parseval_hash m v_.Token.Text) fun y32 =>
 some (.inl (y32.1, y32.2))) (
 cond (v_.Token.Kind == 2) (
 Option.bind (parseval_small m v_.Token.Text) fun y41 =>
 lt (cond (y41 == [114, 103, 98]) true (y41 == [114, 103, 98, 97])) fun x44 =>
 cond x44 (
 Option.bind (parseval_rgb m v_.List_) fun y47 =>
 some (.inl (y47.1, y47.2))) (
 some (.inr ()))) (
 some (.inr ()))))) fun (z9 : Sum (TColor × Bool) (Unit)) => sumK z9 fun s_z9 =>
 some ((TColor.mk 0 0 0 0), false)
def parseval_Color (m : Nat) (l_ : List TValue) : Option (TColor × Int) :=
 cond ((ln l_) != 1) (
 some ((TColor.mk 0 0 0 0), 12)) (
 chk (0 ≤ (0 : Int) ∧ (0 : Int) < ln l_) <|
 Option.bind (parseval_color m (gi l_ (0 : Int))) fun y15 =>
 cond (!y15.2) (
 some ((TColor.mk 0 0 0 0), 12)) (
 some (y15.1, 0)))
structure TVal where
 Kind : Int
 Word : Str
 Num : Int
 Color : TColor
instance : Inhabited TVal := ⟨⟨default, default, default, default⟩⟩
def parseval_maybe (m : Nat) (v_ : TValue) : Option (List TVal) :=
 Option.bind (
 Option.bind (parseval_color m v_) fun y16 =>
 cond y16.2 (
 chk (ln ([] : List TVal) + ln ([(TVal.mk 7 [] 0 y16.1)] : List TVal) ≤ 1099511627776) <|
 lt (([] : List TVal) ++ ([(TVal.mk 7 [] 0 y16.1)] : List TVal)) fun q36 =>
 some q36) (
 some ([] : List TVal))) fun (z15 : List TVal) =>
 Option.bind (
 cond (v_.Token.Kind == 1) (
 Option.bind (parseval_small m v_.Token.Text) fun y51 =>
 chk (ln z15 + ln ([(TVal.mk 1 y51 0 (TColor.mk 0 0 0 0))] : List TVal) ≤ 1099511627776) <|
 lt (z15 ++ ([(TVal.mk 1 y51 0 (TColor.mk 0 0 0 0))] : List TVal)) fun q61 =>
 lt (y51 == [99, 117, 114, 114, 101, 110, 116, 99, 111, 108, 111, 114]) fun x67 =>
 cond x67 (
 chk (ln q61 + ln ([(TVal.mk 8 [] 0 (TColor.mk 0 0 0 0))] : List TVal) ≤ 1099511627776) <|
 lt (q61 ++ ([(TVal.mk 8 [] 0 (TColor.mk 0 0 0 0))] : List TVal)) fun q77 =>
 some q77) (
 some q61)) (
 cond (v_.Token.Kind == 12) (
 Option.bind (parseval_small m v_.Token.Unit) fun y95 =>
 lt (x_key ([[112, 120], [101, 109], [114, 101, 109]] : List Str) y95) fun x98 =>
 lt (decide (0 < (gi ([2, 3, 4, 0] : List Int) x98))) fun x103 =>
 cond x103 (
 chk (ln z15 + ln ([(TVal.mk (gi ([2, 3, 4, 0] : List Int) x98) [] v_.Token.Num (TColor.mk 0 0 0 0))] : List TVal) ≤ 1099511627776) <|
 lt (z15 ++ ([(TVal.mk (gi ([2, 3, 4, 0] : List Int) x98) [] v_.Token.Num (TColor.mk 0 0 0 0))] : List TVal)) fun q113 =>
 some q113) (
 some z15)) (
 cond (v_.Token.Kind == 10) (
 Option.bind (
 cond v_.Token.Flag (
 chk (ln z15 + ln ([(TVal.mk 6 [] (w64 (Int.tdiv v_.Token.Num 1000)) (TColor.mk 0 0 0 0))] : List TVal) ≤ 1099511627776) <|
 lt (z15 ++ ([(TVal.mk 6 [] (w64 (Int.tdiv v_.Token.Num 1000)) (TColor.mk 0 0 0 0))] : List TVal)) fun q132 =>
 some q132) (
 some z15)) fun (z122 : List TVal) =>
 chk (ln z122 + ln ([(TVal.mk 5 [] v_.Token.Num (TColor.mk 0 0 0 0))] : List TVal) ≤ 1099511627776) <|
 lt (z122 ++ ([(TVal.mk 5 [] v_.Token.Num (TColor.mk 0 0 0 0))] : List TVal)) fun q147 =>
 cond (v_.Token.Num == 0) (
 chk (ln q147 + ln ([(TVal.mk 2 [] 0 (TColor.mk 0 0 0 0))] : List TVal) ≤ 1099511627776) <|
 lt (q147 ++ ([(TVal.mk 2 [] 0 (TColor.mk 0 0 0 0))] : List TVal)) fun q162 =>
 some q162) (
 some q147)) (
 some z15)))) fun (z46 : List TVal) =>
 some z46
def props_word (s : Str) : TVal :=
 (TVal.mk 1 s 0 (TColor.mk 0 0 0 0))
structure TProp where
 Name : Str
 Inherited : Bool
 Initial : TVal
 Words : List Str
 Kinds : List Int
 Least : Bool
instance : Inhabited TProp := ⟨⟨default, default, default, default, default, default⟩⟩
def props_color (name_ : Str) (inherited : Bool) (first : TVal) : TProp :=
 (TProp.mk name_ inherited first ([] : List Str) ([7, 8] : List Int) false)
structure Tstrings_span where
 start : Int
 end_ : Int
instance : Inhabited Tstrings_span := ⟨⟨default, default⟩⟩
def strings_Fields_L1 (m : Nat) (s : Str) : Nat → Int → Int → Int → Int → Option (Int × Int)
 | 0, _, _, _, _ => none
 | kk + 1, v12, v13, v14, v15 =>
  cond (decide (v15 < (ln s))) (
  chk (0 ≤ v15 ∧ v15 < ln s) <|
  chk (0 ≤ (bat s v15) ∧ (bat s v15) < (256 : Int)) <|
  lt (w64 (gi gl_strings_asciiSpace (bat s v15))) fun x24 =>
  lt (ibit .and .i64 v13 (ibit .xor .i64 (-1) x24)) fun x27 =>
  strings_Fields_L1 m s kk (w64 (v12 + x27)) x24 (ibit .or .u8 v14 (bat s v15)) (w64 (v15 + 1))) (
  some (v12, v14))
def strings_Fields_L2 (m : Nat) (s : Str) : Nat → Int → Option (Int)
 | 0, _ => none
 | kk + 1, v55 =>
  chk ((decide (v55 < (ln s))) = true → 0 ≤ v55 ∧ v55 < ln s) <|
  chk ((decide (v55 < (ln s))) = true → 0 ≤ (bat s v55) ∧ (bat s v55) < (256 : Int)) <|
  lt (cond (decide (v55 < (ln s))) ((gi gl_strings_asciiSpace (bat s v55)) != 0) false) fun x58 =>
  cond x58 (
  strings_Fields_L2 m s kk (w64 (v55 + 1))) (
  some v55)
def strings_Fields_L4 (m : Nat) (s : Str) : Nat → Int → Option (Int)
 | 0, _ => none
 | kk + 1, v95 =>
  chk ((decide (v95 < (ln s))) = true → 0 ≤ v95 ∧ v95 < ln s) <|
  chk ((decide (v95 < (ln s))) = true → 0 ≤ (bat s v95) ∧ (bat s v95) < (256 : Int)) <|
  lt (cond (decide (v95 < (ln s))) ((gi gl_strings_asciiSpace (bat s v95)) != 0) false) fun x98 =>
  cond x98 (
  strings_Fields_L4 m s kk (w64 (v95 + 1))) (
  some v95)
def strings_Fields_L3 (m : Nat) (s : Str) : Nat → (List Str) → Int → Int → Int → Option (Int × Int × (List Str))
 | 0, _, _, _, _ => none
 | kk + 1, v68, v70, v71, v72 =>
  cond (decide (v72 < (ln s))) (
  chk (0 ≤ v72 ∧ v72 < ln s) <|
  chk (0 ≤ (bat s v72) ∧ (bat s v72) < (256 : Int)) <|
  lt ((gi gl_strings_asciiSpace (bat s v72)) == 0) fun x77 =>
  cond x77 (
  strings_Fields_L3 m s kk v68 v70 v71 (w64 (v72 + 1))) (
  chk (0 ≤ v71 ∧ v71 ≤ v72 ∧ v72 ≤ ln s) <|
  chk (0 ≤ v70 ∧ v70 < ln v68) <|
  lt (setl v68 v70 (sub s v71 v72)) fun q89 =>
  Option.bind (
  strings_Fields_L4 m s m (w64 (v72 + 1))) fun (z94 : Int) =>
  strings_Fields_L3 m s kk q89 (w64 (v70 + 1)) z94 z94)) (
  some (v70, v71, v68))
def strings_Fields (m : Nat) (s : Str) : Option (List Str) :=
 Option.bind (
 strings_Fields_L1 m s m 0 1 0 0) fun (z9 : Int × Int) =>
 cond (decide (128 ≤ z9.2)) (
 none) (
 chk (0 ≤ z9.1 ∧ z9.1 ≤ z9.1 ∧ z9.1 ≤ 1099511627776) <|
 lt (List.replicate (z9.1).toNat ([] : Str)) fun q41 =>
 Option.bind (
 strings_Fields_L2 m s m 0) fun (z54 : Int) =>
 Option.bind (
 strings_Fields_L3 m s m q41 0 z54 z54) fun (z67 : Int × Int × (List Str)) =>
 Option.bind (
 cond (decide (z67.2.1 < (ln s))) (
 chk (0 ≤ z67.2.1 ∧ z67.2.1 ≤ ln s) <|
 chk (0 ≤ z67.1 ∧ z67.1 < ln z67.2.2) <|
 lt (setl z67.2.2 z67.1 (sub s z67.2.1 (ln s))) fun q122 =>
 some q122) (
 some z67.2.2)) fun (z112 : List Str) =>
 some z112)
def props_words (m : Nat) (name_ : Str) (inherited : Bool) (first : Str) (all_ : Str) : Option (TProp) :=
 lt (props_word first) fun y4 =>
 Option.bind (strings_Fields m all_) fun y7 =>
 some (TProp.mk name_ inherited y4 y7 ([] : List Int) false)
def props_length (m : Nat) (name_ : Str) (inherited : Bool) (first : TVal) (all_ : Str) (least : Bool) (more : List Int) : Option (TProp) :=
 Option.bind (strings_Fields m all_) fun y8 =>
 chk (ln ([2, 3, 4] : List Int) + ln more ≤ 1099511627776) <|
 lt (([2, 3, 4] : List Int) ++ more) fun q14 =>
 some (TProp.mk name_ inherited first y8 q14 least)
def props_Table_L1 (m : Nat)  : Nat → (List TProp) → Int → Option (List TProp)
 | 0, _, _ => none
 | kk + 1, v88, v90 =>
  cond (decide (v90 < 4)) (
  chk (0 ≤ v90 ∧ v90 < ln ([[116, 111, 112], [114, 105, 103, 104, 116], [98, 111, 116, 116, 111, 109], [108, 101, 102, 116]] : List Str)) <|
  lt ((gi ([[116, 111, 112], [114, 105, 103, 104, 116], [98, 111, 116, 116, 111, 109], [108, 101, 102, 116]] : List Str) v90)) fun x94 =>
  chk (ln [109, 97, 114, 103, 105, 110, 45] + ln x94 ≤ 9223372036854775807) <|
  Option.bind (props_length m ([109, 97, 114, 103, 105, 110, 45] ++ x94) false (TVal.mk 2 [] 0 (TColor.mk 0 0 0 0)) [97, 117, 116, 111] false []) fun y101 =>
  chk (ln v88 + ln ([y101] : List TProp) ≤ 1099511627776) <|
  lt (v88 ++ ([y101] : List TProp)) fun q113 =>
  props_Table_L1 m  kk q113 (w64 (v90 + 1))) (
  some v88)
def props_Table (m : Nat)  : Option (List TProp) :=
 lt (props_word [97, 117, 116, 111]) fun y3 =>
 lt (props_color [99, 111, 108, 111, 114] true (TVal.mk 7 [] 0 (TColor.mk 0 0 0 255))) fun y17 =>
 lt (props_color [98, 97, 99, 107, 103, 114, 111, 117, 110, 100, 45, 99, 111, 108, 111, 114] false (TVal.mk 7 [] 0 (TColor.mk 0 0 0 0))) fun y22 =>
 lt (props_color [98, 111, 114, 100, 101, 114, 45, 99, 111, 108, 111, 114] false (TVal.mk 8 [] 0 (TColor.mk 0 0 0 0))) fun y27 =>
 lt (props_color [111, 117, 116, 108, 105, 110, 101, 45, 99, 111, 108, 111, 114] false (TVal.mk 8 [] 0 (TColor.mk 0 0 0 0))) fun y32 =>
 Option.bind (props_words m [100, 105, 115, 112, 108, 97, 121] false [105, 110, 108, 105, 110, 101] [98, 108, 111, 99, 107, 32, 102, 108, 101, 120, 32, 105, 110, 108, 105, 110, 101, 32, 105, 110, 108, 105, 110, 101, 45, 98, 108, 111, 99, 107, 32, 110, 111, 110, 101]) fun y37 =>
 Option.bind (props_words m [118, 105, 115, 105, 98, 105, 108, 105, 116, 121] true [118, 105, 115, 105, 98, 108, 101] [99, 111, 108, 108, 97, 112, 115, 101, 32, 104, 105, 100, 100, 101, 110, 32, 118, 105, 115, 105, 98, 108, 101]) fun y42 =>
 Option.bind (props_length m [119, 105, 100, 116, 104] false y3 [97, 117, 116, 111] true []) fun y48 =>
 Option.bind (props_length m [104, 101, 105, 103, 104, 116] false y3 [97, 117, 116, 111] true []) fun y54 =>
 Option.bind (
 props_Table_L1 m  m ([y17, y22, y27, y32, y37, y42, y48, y54] : List TProp) 0) fun (z81 : List TProp) =>
 Option.bind (props_length m [102, 111, 110, 116, 45, 115, 105, 122, 101] true (TVal.mk 2 [] 16000 (TColor.mk 0 0 0 0)) [] true []) fun y126 =>
 lt (props_word [110, 111, 114, 109, 97, 108]) fun y131 =>
 Option.bind (props_length m [108, 105, 110, 101, 45, 104, 101, 105, 103, 104, 116] true y131 [110, 111, 114, 109, 97, 108] true ([5] : List Int)) fun y134 =>
 Option.bind (props_words m [116, 101, 120, 116, 45, 97, 108, 105, 103, 110] true [108, 101, 102, 116] [99, 101, 110, 116, 101, 114, 32, 106, 117, 115, 116, 105, 102, 121, 32, 108, 101, 102, 116, 32, 114, 105, 103, 104, 116]) fun y139 =>
 chk (ln z81 + ln ([y126, y134, y139, (TProp.mk [111, 112, 97, 99, 105, 116, 121] false (TVal.mk 5 [] 1000 (TColor.mk 0 0 0 0)) [] ([5] : List Int) false), (TProp.mk [122, 45, 105, 110, 100, 101, 120] false y3 ([[97, 117, 116, 111]] : List Str) ([6] : List Int) false), (TProp.mk [111, 114, 100, 101, 114] false (TVal.mk 6 [] 0 (TColor.mk 0 0 0 0)) [] ([6] : List Int) false)] : List TProp) ≤ 1099511627776) <|
 lt (z81 ++ ([y126, y134, y139, (TProp.mk [111, 112, 97, 99, 105, 116, 121] false (TVal.mk 5 [] 1000 (TColor.mk 0 0 0 0)) [] ([5] : List Int) false), (TProp.mk [122, 45, 105, 110, 100, 101, 120] false y3 ([[97, 117, 116, 111]] : List Str) ([6] : List Int) false), (TProp.mk [111, 114, 100, 101, 114] false (TVal.mk 6 [] 0 (TColor.mk 0 0 0 0)) [] ([6] : List Int) false)] : List TProp)) fun q155 =>
 some q155
def props_Check (v_ : TVal) : Option (Int) :=
 Option.bind (
 Option.bind (
 cond (v_.Kind == 1) (
 Option.bind (
 some (.inr (v_.Word, 0, 0, 0, 0, 0))) fun r25 => some (.inl r25)) (
 cond (v_.Kind == 6) (
 some (.inr (w64 (Int.tdiv 1000000000000 1000)))) (
 Option.bind (
 cond (v_.Kind == 2) (
 some (v_.Kind == 2)) (
 cond (v_.Kind == 3) (
 some (v_.Kind == 3)) (
 cond (v_.Kind == 4) (
 some (v_.Kind == 4)) (
 some (v_.Kind == 5))))) fun (z30 : Bool) =>
 cond z30 (
 some (.inr 1000000000000)) (
 cond (v_.Kind == 7) (
 Option.bind (
 some (.inr ([], v_.Color.Red, v_.Color.Green, v_.Color.Blue, v_.Color.Alpha, 0))) fun r48 => some (.inl r48)) (
 cond (v_.Kind == 8) (
 Option.bind (
 some (.inr ([], 0, 0, 0, 0, 0))) fun r51 => some (.inl r51)) (
 Option.bind (
 some (.inl 8)) fun r54 => some (.inl r54))))))) fun (z18 : Sum (Sum (Int) (Str × Int × Int × Int × Int × Int)) (Int)) => sumK z18 fun s_z18 =>
 lt (if w64 (0 - s_z18) < if v_.Num < s_z18 then v_.Num else s_z18 then if v_.Num < s_z18 then v_.Num else s_z18 else w64 (0 - s_z18)) fun x61 =>
 some (.inr ([], 0, 0, 0, 0, x61))) fun (z15 : Sum (Int) (Str × Int × Int × Int × Int × Int)) => sumK z15 fun s_z15 =>
 lt (!((v_.Kind == v_.Kind) && ((v_.Word == s_z15.1) && ((v_.Num == s_z15.2.2.2.2.2) && (((v_.Color.Red == s_z15.2.1) && ((v_.Color.Green == s_z15.2.2.1) && ((v_.Color.Blue == s_z15.2.2.2.1) && ((v_.Color.Alpha == s_z15.2.2.2.2.1) && true)))) && true))))) fun x67 =>
 lt (cond x67 true (cond (v_.Kind == 1) (v_.Word == []) false)) fun x68 =>
 cond x68 (
 some 8) (
 some 0)
def slices_Index_string_string_L1 (m : Nat) (s : List Str) (v_ : Str) : Nat → Int → Option (Sum (Int) (Unit))
 | 0, _ => none
 | kk + 1, v6 =>
  cond (decide (v6 < (ln s))) (
  chk (0 ≤ v6 ∧ v6 < ln s) <|
  cond (v_ == (gi s v6)) (
  some (.inl v6)) (
  slices_Index_string_string_L1 m s v_ kk (w64 (v6 + 1)))) (
  some (.inr ()))
def slices_Index_string_string (m : Nat) (s : List Str) (v_ : Str) : Option (Int) :=
 Option.bind (
 slices_Index_string_string_L1 m s v_ m 0) fun (z3 : Sum (Int) (Unit)) => sumK z3 fun s_z3 =>
 some (-1)
def slices_Contains_string_string (m : Nat) (s : List Str) (v_ : Str) : Option (Bool) :=
 Option.bind (slices_Index_string_string m s v_) fun y3 =>
 some (decide (0 ≤ y3))
def slices_Index_uint8_uint8_L1 (m : Nat) (s : List Int) (v_ : Int) : Nat → Int → Option (Sum (Int) (Unit))
 | 0, _ => none
 | kk + 1, v6 =>
  cond (decide (v6 < (ln s))) (
  chk (0 ≤ v6 ∧ v6 < ln s) <|
  cond (v_ == (gi s v6)) (
  some (.inl v6)) (
  slices_Index_uint8_uint8_L1 m s v_ kk (w64 (v6 + 1)))) (
  some (.inr ()))
def slices_Index_uint8_uint8 (m : Nat) (s : List Int) (v_ : Int) : Option (Int) :=
 Option.bind (
 slices_Index_uint8_uint8_L1 m s v_ m 0) fun (z3 : Sum (Int) (Unit)) => sumK z3 fun s_z3 =>
 some (-1)
def slices_Contains_uint8_uint8 (m : Nat) (s : List Int) (v_ : Int) : Option (Bool) :=
 Option.bind (slices_Index_uint8_uint8 m s v_) fun y3 =>
 some (decide (0 ≤ y3))
def props_Has (m : Nat) (prop : Int) (v_ : TVal) : Option (Bool × Int) :=
 lt (cond (decide (prop < 0)) true (decide (18 ≤ prop))) fun x6 =>
 cond x6 (
 some (false, 2)) (
 Option.bind (props_Table m) fun y11 =>
 chk (0 ≤ prop ∧ prop < ln y11) <|
 Option.bind (props_Check v_) fun y24 =>
 cond (y24 != 0) (
 some (false, 0)) (
 cond (v_.Kind == 1) (
 Option.bind (slices_Contains_string_string m ((gi y11 prop).Words) v_.Word) fun y31 =>
 some (y31, 0)) (
 Option.bind (slices_Contains_uint8_uint8 m ((gi y11 prop).Kinds) v_.Kind) fun y34 =>
 lt (cond y34 (cond (!((gi y11 prop).Least)) true (decide (0 ≤ v_.Num))) false) fun x35 =>
 some (x35, 0))))
def parseval_Parse_L1 (m : Nat) (prop : Int) (y28 : List TVal) : Nat → Int → Option (Sum (TVal × Int) (Unit))
 | 0, _ => none
 | kk + 1, v35 =>
  cond (decide (v35 < (ln y28))) (
  chk (0 ≤ v35 ∧ v35 < ln y28) <|
  Option.bind (props_Has 64 prop (gi y28 v35)) fun y46 =>
  cond y46.1 (
  some (.inl ((gi y28 v35), 0))) (
  parseval_Parse_L1 m prop y28 kk (w64 (v35 + 1)))) (
  some (.inr ()))
def parseval_Parse (m : Nat) (prop : Int) (l_ : List TValue) : Option (TVal × Int) :=
 lt (cond (decide (prop < 0)) true (decide (18 ≤ prop))) fun x6 =>
 cond x6 (
 some ((TVal.mk 0 [] 0 (TColor.mk 0 0 0 0)), 2)) (
 cond ((ln l_) != 1) (
 some ((TVal.mk 0 [] 0 (TColor.mk 0 0 0 0)), 12)) (
 Option.bind (
 chk (0 ≤ (0 : Int) ∧ (0 : Int) < ln l_) <|
 Option.bind (parseval_maybe m (gi l_ (0 : Int))) fun y28 =>
 parseval_Parse_L1 m prop y28 m 0) fun (z23 : Sum (TVal × Int) (Unit)) => sumK z23 fun s_z23 =>
 some ((TVal.mk 0 [] 0 (TColor.mk 0 0 0 0)), 12)))
def law26_reads (m : Nat) (prop : Int) (s : Str) (want : TVal) : Option (Bool) :=
 Option.bind (r04_Of 300 s) fun y8 =>
 Option.bind (parseval_Parse m prop y8) fun y13 =>
 lt (cond (y13.2 == 0) ((y13.1.Kind == want.Kind) && ((y13.1.Word == want.Word) && ((y13.1.Num == want.Num) && (((y13.1.Color.Red == want.Color.Red) && ((y13.1.Color.Green == want.Color.Green) && ((y13.1.Color.Blue == want.Color.Blue) && ((y13.1.Color.Alpha == want.Color.Alpha) && true)))) && true)))) false) fun x23 =>
 some x23
def law26_color (m : Nat) (s : Str) (want : TColor) : Option (Bool) :=
 Option.bind (r04_Of 300 s) fun y8 =>
 Option.bind (parseval_Color 300 y8) fun y13 =>
 lt (cond (y13.2 == 0) ((y13.1.Red == want.Red) && ((y13.1.Green == want.Green) && ((y13.1.Blue == want.Blue) && ((y13.1.Alpha == want.Alpha) && true)))) false) fun x23 =>
 Option.bind (cond x23 (law26_reads 300 3 s (TVal.mk 7 [] 0 y13.1)) (some default)) fun y24 =>
 some (cond x23 y24 false)
def law26_none (m : Nat) (prop : Int) (s : Str) : Option (Bool) :=
 Option.bind (r04_Of 300 s) fun y5 =>
 Option.bind (parseval_Parse m prop y5) fun y10 =>
 lt (cond (y10.2 == 12) ((y10.1.Kind == 0) && ((y10.1.Word == []) && ((y10.1.Num == 0) && (((y10.1.Color.Red == 0) && ((y10.1.Color.Green == 0) && ((y10.1.Color.Blue == 0) && ((y10.1.Color.Alpha == 0) && true)))) && true)))) false) fun x20 =>
 some x20
def strings_Join_L1 (m : Nat) (elems : List Str) : Nat → Int → Int → Option (Int)
 | 0, _, _ => none
 | kk + 1, v31, v32 =>
  cond (decide (v32 < (ln elems))) (
  chk (0 ≤ v32 ∧ v32 < ln elems) <|
  lt (decide ((w64 (9223372036854775807 - v31)) < (ln (gi elems v32)))) fun x38 =>
  cond x38 (
  none) (
  strings_Join_L1 m elems kk (w64 (v31 + (ln (gi elems v32)))) (w64 (v32 + 1)))) (
  some v31)
def strings_Join_L2 (m : Nat) (sep : Str) (q69 : List Str) : Nat → Int → Str → Option (Str)
 | 0, _, _ => none
 | kk + 1, v76, v77 =>
  cond (decide (v76 < (ln q69))) (
  chk (0 ≤ v76 ∧ v76 < ln q69) <|
  chk (ln v77 + ln sep ≤ 1099511627776) <|
  lt (v77 ++ sep) fun q87 =>
  chk (ln q87 + ln (gi q69 v76) ≤ 1099511627776) <|
  lt (q87 ++ (gi q69 v76)) fun q94 =>
  strings_Join_L2 m sep q69 kk (w64 (v76 + 1)) q94) (
  some v77)
def strings_Join (m : Nat) (elems : List Str) (sep : Str) : Option (Str) :=
 cond ((ln elems) == 0) (
 some []) (
 cond ((ln elems) == 1) (
 chk (0 ≤ (0 : Int) ∧ (0 : Int) < ln elems) <|
 some (gi elems (0 : Int))) (
 Option.bind (
 cond (decide (0 < (ln sep))) (
 chk ((w64 ((ln elems) - 1)) ≠ 0) <|
 lt (w64 (Int.tdiv 9223372036854775807 (w64 ((ln elems) - 1)))) fun x20 =>
 cond (decide (x20 ≤ (ln sep))) (
 none) (
 lt (w64 (0 + (w64 ((ln sep) * (w64 ((ln elems) - 1)))))) fun x23 =>
 some x23)) (
 some 0)) fun (z16 : Int) =>
 Option.bind (
 strings_Join_L1 m elems m z16 0) fun (z28 : Int) =>
 chk (0 ≤ z28 ∧ z28 ≤ 281474976710656) <|
 chk (0 ≤ (0 : Int) ∧ (0 : Int) < ln elems) <|
 chk (ln ([] : Str) + ln (gi elems (0 : Int)) ≤ 1099511627776) <|
 lt (([] : Str) ++ (gi elems (0 : Int))) fun q61 =>
 Option.bind (
 chk (0 ≤ (1 : Int) ∧ (1 : Int) ≤ (ln elems) ∧ (ln elems) ≤ ln elems) <|
 lt (subl elems (1 : Int) (ln elems)) fun q69 =>
 strings_Join_L2 m sep q69 m 0 q61) fun (z65 : Str) =>
 some z65))
def strconv_small (i : Int) : Option (Str) :=
 cond (decide (i < 10)) (
 chk (0 ≤ i ∧ i ≤ (w64 (i + 1)) ∧ (w64 (i + 1)) ≤ ln [48, 49, 50, 51, 52, 53, 54, 55, 56, 57, 97, 98, 99, 100, 101, 102, 103, 104, 105, 106, 107, 108, 109, 110, 111, 112, 113, 114, 115, 116, 117, 118, 119, 120, 121, 122]) <|
 lt (sub [48, 49, 50, 51, 52, 53, 54, 55, 56, 57, 97, 98, 99, 100, 101, 102, 103, 104, 105, 106, 107, 108, 109, 110, 111, 112, 113, 114, 115, 116, 117, 118, 119, 120, 121, 122] i (w64 (i + 1))) fun x6 =>
 some x6) (
 chk (0 ≤ (w64 (i * 2)) ∧ (w64 (i * 2)) ≤ (w64 ((w64 (i * 2)) + 2)) ∧ (w64 ((w64 (i * 2)) + 2)) ≤ ln [48, 48, 48, 49, 48, 50, 48, 51, 48, 52, 48, 53, 48, 54, 48, 55, 48, 56, 48, 57, 49, 48, 49, 49, 49, 50, 49, 51, 49, 52, 49, 53, 49, 54, 49, 55, 49, 56, 49, 57, 50, 48, 50, 49, 50, 50, 50, 51, 50, 52, 50, 53, 50, 54, 50, 55, 50, 56, 50, 57, 51, 48, 51, 49, 51, 50, 51, 51, 51, 52, 51, 53, 51, 54, 51, 55, 51, 56, 51, 57, 52, 48, 52, 49, 52, 50, 52, 51, 52, 52, 52, 53, 52, 54, 52, 55, 52, 56, 52, 57, 53, 48, 53, 49, 53, 50, 53, 51, 53, 52, 53, 53, 53, 54, 53, 55, 53, 56, 53, 57, 54, 48, 54, 49, 54, 50, 54, 51, 54, 52, 54, 53, 54, 54, 54, 55, 54, 56, 54, 57, 55, 48, 55, 49, 55, 50, 55, 51, 55, 52, 55, 53, 55, 54, 55, 55, 55, 56, 55, 57, 56, 48, 56, 49, 56, 50, 56, 51, 56, 52, 56, 53, 56, 54, 56, 55, 56, 56, 56, 57, 57, 48, 57, 49, 57, 50, 57, 51, 57, 52, 57, 53, 57, 54, 57, 55, 57, 56, 57, 57]) <|
 lt (sub [48, 48, 48, 49, 48, 50, 48, 51, 48, 52, 48, 53, 48, 54, 48, 55, 48, 56, 48, 57, 49, 48, 49, 49, 49, 50, 49, 51, 49, 52, 49, 53, 49, 54, 49, 55, 49, 56, 49, 57, 50, 48, 50, 49, 50, 50, 50, 51, 50, 52, 50, 53, 50, 54, 50, 55, 50, 56, 50, 57, 51, 48, 51, 49, 51, 50, 51, 51, 51, 52, 51, 53, 51, 54, 51, 55, 51, 56, 51, 57, 52, 48, 52, 49, 52, 50, 52, 51, 52, 52, 52, 53, 52, 54, 52, 55, 52, 56, 52, 57, 53, 48, 53, 49, 53, 50, 53, 51, 53, 52, 53, 53, 53, 54, 53, 55, 53, 56, 53, 57, 54, 48, 54, 49, 54, 50, 54, 51, 54, 52, 54, 53, 54, 54, 54, 55, 54, 56, 54, 57, 55, 48, 55, 49, 55, 50, 55, 51, 55, 52, 55, 53, 55, 54, 55, 55, 55, 56, 55, 57, 56, 48, 56, 49, 56, 50, 56, 51, 56, 52, 56, 53, 56, 54, 56, 55, 56, 56, 56, 57, 57, 48, 57, 49, 57, 50, 57, 51, 57, 52, 57, 53, 57, 54, 57, 55, 57, 56, 57, 57] (w64 (i * 2)) (w64 ((w64 (i * 2)) + 2))) fun x10 =>
 some x10)
def math_bits_Len64 (x_ : Int) : Option (Int) :=
 Option.bind (
 cond (decide (4294967296 ≤ x_)) (
 some (Int.fdiv x_ (2 ^ 32), 32)) (
 some (x_, 0))) fun (z3 : Int × Int) =>
 Option.bind (
 cond (decide (65536 ≤ z3.1)) (
 some (Int.fdiv z3.1 (2 ^ 16), w64 (z3.2 + 16))) (
 some (z3.1, z3.2))) fun (z11 : Int × Int) =>
 Option.bind (
 cond (decide (256 ≤ z11.1)) (
 some (Int.fdiv z11.1 (2 ^ 8), w64 (z11.2 + 8))) (
 some (z11.1, z11.2))) fun (z19 : Int × Int) =>
 chk (0 ≤ (wu8 z19.1) ∧ (wu8 z19.1) < ln [0, 1, 2, 2, 3, 3, 3, 3, 4, 4, 4, 4, 4, 4, 4, 4, 5, 5, 5, 5, 5, 5, 5, 5, 5, 5, 5, 5, 5, 5, 5, 5, 6, 6, 6, 6, 6, 6, 6, 6, 6, 6, 6, 6, 6, 6, 6, 6, 6, 6, 6, 6, 6, 6, 6, 6, 6, 6, 6, 6, 6, 6, 6, 6, 7, 7, 7, 7, 7, 7, 7, 7, 7, 7, 7, 7, 7, 7, 7, 7, 7, 7, 7, 7, 7, 7, 7, 7, 7, 7, 7, 7, 7, 7, 7, 7, 7, 7, 7, 7, 7, 7, 7, 7, 7, 7, 7, 7, 7, 7, 7, 7, 7, 7, 7, 7, 7, 7, 7, 7, 7, 7, 7, 7, 7, 7, 7, 7, 8, 8, 8, 8, 8, 8, 8, 8, 8, 8, 8, 8, 8, 8, 8, 8, 8, 8, 8, 8, 8, 8, 8, 8, 8, 8, 8, 8, 8, 8, 8, 8, 8, 8, 8, 8, 8, 8, 8, 8, 8, 8, 8, 8, 8, 8, 8, 8, 8, 8, 8, 8, 8, 8, 8, 8, 8, 8, 8, 8, 8, 8, 8, 8, 8, 8, 8, 8, 8, 8, 8, 8, 8, 8, 8, 8, 8, 8, 8, 8, 8, 8, 8, 8, 8, 8, 8, 8, 8, 8, 8, 8, 8, 8, 8, 8, 8, 8, 8, 8, 8, 8, 8, 8, 8, 8, 8, 8, 8, 8, 8, 8, 8, 8, 8, 8, 8, 8, 8, 8, 8, 8, 8, 8, 8, 8, 8, 8]) <|
 lt (bat [0, 1, 2, 2, 3, 3, 3, 3, 4, 4, 4, 4, 4, 4, 4, 4, 5, 5, 5, 5, 5, 5, 5, 5, 5, 5, 5, 5, 5, 5, 5, 5, 6, 6, 6, 6, 6, 6, 6, 6, 6, 6, 6, 6, 6, 6, 6, 6, 6, 6, 6, 6, 6, 6, 6, 6, 6, 6, 6, 6, 6, 6, 6, 6, 7, 7, 7, 7, 7, 7, 7, 7, 7, 7, 7, 7, 7, 7, 7, 7, 7, 7, 7, 7, 7, 7, 7, 7, 7, 7, 7, 7, 7, 7, 7, 7, 7, 7, 7, 7, 7, 7, 7, 7, 7, 7, 7, 7, 7, 7, 7, 7, 7, 7, 7, 7, 7, 7, 7, 7, 7, 7, 7, 7, 7, 7, 7, 7, 8, 8, 8, 8, 8, 8, 8, 8, 8, 8, 8, 8, 8, 8, 8, 8, 8, 8, 8, 8, 8, 8, 8, 8, 8, 8, 8, 8, 8, 8, 8, 8, 8, 8, 8, 8, 8, 8, 8, 8, 8, 8, 8, 8, 8, 8, 8, 8, 8, 8, 8, 8, 8, 8, 8, 8, 8, 8, 8, 8, 8, 8, 8, 8, 8, 8, 8, 8, 8, 8, 8, 8, 8, 8, 8, 8, 8, 8, 8, 8, 8, 8, 8, 8, 8, 8, 8, 8, 8, 8, 8, 8, 8, 8, 8, 8, 8, 8, 8, 8, 8, 8, 8, 8, 8, 8, 8, 8, 8, 8, 8, 8, 8, 8, 8, 8, 8, 8, 8, 8, 8, 8, 8, 8, 8, 8, 8, 8] (wu8 z19.1)) fun x28 =>
 some (w64 (z19.2 + (w64 x28)))
def strconv_log10Pow2 (x_ : Int) : Int :=
 Int.fdiv (w64 (x_ * 78913)) (2 ^ 18)
def strconv_isPowerOfTwo (x_ : Int) : Bool :=
 (ibit .and .i64 x_ (w64 (x_ - 1))) == 0
def math_bits_TrailingZeros64 (x_ : Int) : Option (Int) :=
 cond (x_ == 0) (
 some 64) (
 lt (wu64 ((ibit .and .u64 x_ (wu64 (0 - x_))) * 285870213051353865)) fun x7 =>
 chk (0 ≤ (Int.fdiv x7 (2 ^ 58)) ∧ (Int.fdiv x7 (2 ^ 58)) < (64 : Int)) <|
 lt ((gi gl_math_bits_deBruijn64tab (Int.fdiv x7 (2 ^ 58)))) fun x9 =>
 some (w64 x9))
def math_bits_TrailingZeros (x_ : Int) : Option (Int) :=
 Option.bind (math_bits_TrailingZeros64 x_) fun y3 =>
 some y3
def strconv_formatBits_L1 (m : Nat) (base : Int) (y20 : Int) : Nat → Int → Int → (List Int) → Option (Int × Int × (List Int))
 | 0, _, _, _ => none
 | kk + 1, v28, v29, v30 =>
  cond (decide ((wu64 base) ≤ v28)) (
  lt (ibit .and .u64 v28 (wu64 ((wu64 base) - 1))) fun x35 =>
  chk (0 ≤ x35 ∧ x35 < ln [48, 49, 50, 51, 52, 53, 54, 55, 56, 57, 97, 98, 99, 100, 101, 102, 103, 104, 105, 106, 107, 108, 109, 110, 111, 112, 113, 114, 115, 116, 117, 118, 119, 120, 121, 122]) <|
  lt (bat [48, 49, 50, 51, 52, 53, 54, 55, 56, 57, 97, 98, 99, 100, 101, 102, 103, 104, 105, 106, 107, 108, 109, 110, 111, 112, 113, 114, 115, 116, 117, 118, 119, 120, 121, 122] x35) fun x37 =>
  chk (0 ≤ (w64 (v29 - 1)) ∧ (w64 (v29 - 1)) < (65 : Int)) <|
  lt (seti v30 (w64 (v29 - 1)) x37) fun q43 =>
  chk (0 ≤ (wu64 y20)) <|
  lt (Int.fdiv v28 (2 ^ (Nat.min (wu64 y20).toNat 64))) fun x45 =>
  strconv_formatBits_L1 m base y20 kk x45 (w64 (v29 - 1)) q43) (
  some (v28, v29, v30))
def strconv_formatBits_L2 (m : Nat) (base : Int) : Nat → Int → Int → (List Int) → Option (Int × Int × (List Int))
 | 0, _, _, _ => none
 | kk + 1, v64, v65, v66 =>
  cond (decide ((wu64 base) ≤ v64)) (
  chk ((wu64 base) ≠ 0) <|
  lt (wu64 ((wu64 (Int.tdiv v64 (wu64 base))) * (wu64 base))) fun x74 =>
  chk (0 ≤ (wu64 (v64 - x74)) ∧ (wu64 (v64 - x74)) < ln [48, 49, 50, 51, 52, 53, 54, 55, 56, 57, 97, 98, 99, 100, 101, 102, 103, 104, 105, 106, 107, 108, 109, 110, 111, 112, 113, 114, 115, 116, 117, 118, 119, 120, 121, 122]) <|
  lt (bat [48, 49, 50, 51, 52, 53, 54, 55, 56, 57, 97, 98, 99, 100, 101, 102, 103, 104, 105, 106, 107, 108, 109, 110, 111, 112, 113, 114, 115, 116, 117, 118, 119, 120, 121, 122] (wu64 (v64 - x74))) fun x76 =>
  chk (0 ≤ (w64 (v65 - 1)) ∧ (w64 (v65 - 1)) < (65 : Int)) <|
  lt (seti v66 (w64 (v65 - 1)) x76) fun q82 =>
  strconv_formatBits_L2 m base kk (wu64 (Int.tdiv v64 (wu64 base))) (w64 (v65 - 1)) q82) (
  some (v64, v65, v66))
def strconv_formatBits (m : Nat) (dst : List Int) (u_ : Int) (base : Int) (neg : Bool) (append_ : Bool) : Option ((List Int) × Str) :=
 lt (cond (decide (base < 2)) true (base == 10)) fun x3 =>
 cond (cond x3 true (decide (36 < base))) (
 none) (
 Option.bind (
 cond neg (
 some (wu64 (0 - u_))) (
 some u_)) fun (z11 : Int) =>
 Option.bind (
 cond (strconv_isPowerOfTwo base) (
 Option.bind (math_bits_TrailingZeros (wu64 base)) fun y20 =>
 Option.bind (
 strconv_formatBits_L1 m base y20 m z11 65 (List.replicate 65 (0 : Int))) fun (z27 : Int × Int × (List Int)) =>
 chk (0 ≤ z27.1 ∧ z27.1 < ln [48, 49, 50, 51, 52, 53, 54, 55, 56, 57, 97, 98, 99, 100, 101, 102, 103, 104, 105, 106, 107, 108, 109, 110, 111, 112, 113, 114, 115, 116, 117, 118, 119, 120, 121, 122]) <|
 lt (bat [48, 49, 50, 51, 52, 53, 54, 55, 56, 57, 97, 98, 99, 100, 101, 102, 103, 104, 105, 106, 107, 108, 109, 110, 111, 112, 113, 114, 115, 116, 117, 118, 119, 120, 121, 122] z27.1) fun x53 =>
 chk (0 ≤ (w64 (z27.2.1 - 1)) ∧ (w64 (z27.2.1 - 1)) < (65 : Int)) <|
 lt (seti z27.2.2 (w64 (z27.2.1 - 1)) x53) fun q59 =>
 some (w64 (z27.2.1 - 1), q59)) (
 Option.bind (
 strconv_formatBits_L2 m base m z11 65 (List.replicate 65 (0 : Int))) fun (z63 : Int × Int × (List Int)) =>
 chk (0 ≤ z63.1 ∧ z63.1 < ln [48, 49, 50, 51, 52, 53, 54, 55, 56, 57, 97, 98, 99, 100, 101, 102, 103, 104, 105, 106, 107, 108, 109, 110, 111, 112, 113, 114, 115, 116, 117, 118, 119, 120, 121, 122]) <|
 lt (bat [48, 49, 50, 51, 52, 53, 54, 55, 56, 57, 97, 98, 99, 100, 101, 102, 103, 104, 105, 106, 107, 108, 109, 110, 111, 112, 113, 114, 115, 116, 117, 118, 119, 120, 121, 122] z63.1) fun x90 =>
 chk (0 ≤ (w64 (z63.2.1 - 1)) ∧ (w64 (z63.2.1 - 1)) < (65 : Int)) <|
 lt (seti z63.2.2 (w64 (z63.2.1 - 1)) x90) fun q96 =>
 some (w64 (z63.2.1 - 1), q96))) fun (z17 : Int × (List Int)) =>
 Option.bind (
 cond neg (
 chk (0 ≤ (w64 (z17.1 - 1)) ∧ (w64 (z17.1 - 1)) < (65 : Int)) <|
 lt (seti z17.2 (w64 (z17.1 - 1)) 45) fun q109 =>
 some (w64 (z17.1 - 1), q109)) (
 some (z17.1, z17.2))) fun (z99 : Int × (List Int)) =>
 cond append_ (
 none) (
 chk (0 ≤ z99.1 ∧ z99.1 < (65 : Int)) <|
 some (([] : List Int), toB (z99.2.drop (z99.1).toNat))))
def strconv_FormatInt_2 (m : Nat) (i : Int) (base : Int) : Option (Str) :=
 cond (base == 10) (
 lt (cond (decide (0 ≤ i)) (decide (i < 100)) false) fun x5 =>
 cond x5 (
 Option.bind (strconv_small i) fun y8 =>
 some y8) (
 Option.bind (
 cond (decide (i < 0)) (
 some (wu64 (0 - (wu64 i)))) (
 some (wu64 i))) fun (z16 : Int) =>
 none)) (
 Option.bind (strconv_formatBits m [] (wu64 i) base (decide (i < 0)) false) fun y27 =>
 some y27.2)
def strconv_FormatInt (m : Nat) (i : Int) : Option (Str) :=
 Option.bind (strconv_FormatInt_2 m i 16) fun y3 =>
 some y3
def parseval_Shown_L1 (m : Nat) (c_ : TColor) : Nat → (List Str) → Int → Option (List Str)
 | 0, _, _ => none
 | kk + 1, v22, v24 =>
  cond (decide (v24 < (3 : Int))) (
  chk (0 ≤ v24 ∧ v24 < (3 : Int)) <|
  chk (0 ≤ v24 ∧ v24 < (4 : Int)) <|
  lt (gi [c_.Red, c_.Green, c_.Blue, c_.Alpha] v24) fun x29 =>
  Option.bind (x_Itoa (w64 x29)) fun y32 =>
  chk (ln v22 + ln ([y32] : List Str) ≤ 1099511627776) <|
  lt (v22 ++ ([y32] : List Str)) fun q40 =>
  parseval_Shown_L1 m c_ kk q40 (w64 (v24 + 1))) (
  some v22)
def parseval_Shown_L2 (m : Nat) (c_ : TColor) : Nat → Str → Int → Option (Str)
 | 0, _, _ => none
 | kk + 1, v64, v65 =>
  cond (decide (v65 < 4)) (
  chk (0 ≤ v65 ∧ v65 < (4 : Int)) <|
  lt (gi [c_.Red, c_.Green, c_.Blue, c_.Alpha] v65) fun x69 =>
  Option.bind (strconv_FormatInt m (w64 (256 + (w64 x69)))) fun y72 =>
  chk (0 ≤ (1 : Int) ∧ (1 : Int) ≤ ln y72) <|
  chk (ln v64 + ln (sub y72 1 (ln y72)) ≤ 9223372036854775807) <|
  parseval_Shown_L2 m c_ kk (v64 ++ (sub y72 1 (ln y72))) (w64 (v65 + 1))) (
  some v64)
def parseval_Shown (m : Nat) (c_ : TColor) : Option (Str) :=
 Option.bind (
 cond (c_.Alpha == 255) (
 Option.bind (
 parseval_Shown_L1 m c_ m ([] : List Str) 0) fun (z18 : List Str) =>
 Option.bind (strings_Join m z18 [44, 32]) fun y52 =>
 chk (ln [114, 103, 98, 40] + ln y52 ≤ 9223372036854775807) <|
 chk (ln ([114, 103, 98, 40] ++ y52) + ln [41] ≤ 9223372036854775807) <|
 some (.inl (([114, 103, 98, 40] ++ y52) ++ [41]))) (
 some (.inr ()))) fun (z13 : Sum (Str) (Unit)) => sumK z13 fun s_z13 =>
 Option.bind (
 parseval_Shown_L2 m c_ m [35] 0) fun (z61 : Str) =>
 some z61
def law26_alive (m : Nat)  : Option (Bool) :=
 Option.bind (law26_color m [82, 69, 68] (TColor.mk 255 0 0 255)) fun y3 =>
 Option.bind (cond y3 (law26_color m [35, 48, 102, 48, 56] (TColor.mk 0 255 0 136)) (some default)) fun y4 =>
 Option.bind (cond (cond y3 y4 false) (law26_color m [114, 103, 98, 40, 49, 46, 57, 32, 45, 50, 32, 51, 48, 48, 32, 47, 32, 48, 46, 53, 41] (TColor.mk 1 0 255 127)) (some default)) fun y5 =>
 Option.bind (law26_reads 300 6 [48] (TVal.mk 2 [] 0 (TColor.mk 0 0 0 0))) fun y8 =>
 Option.bind (cond y8 (law26_reads 300 6 [49, 46, 53, 101, 109] (TVal.mk 3 [] 1500 (TColor.mk 0 0 0 0))) (some default)) fun y9 =>
 Option.bind (cond (cond y8 y9 false) (law26_reads 300 6 [97, 117, 116, 111] (TVal.mk 1 [97, 117, 116, 111] 0 (TColor.mk 0 0 0 0))) (some default)) fun y10 =>
 Option.bind (cond (cond (cond y8 y9 false) y10 false) (law26_reads 300 13 [48] (TVal.mk 5 [] 0 (TColor.mk 0 0 0 0))) (some default)) fun y11 =>
 lt (cond (cond (cond y8 y9 false) y10 false) y11 false) fun x12 =>
 Option.bind (cond x12 (law26_reads 300 16 [50] (TVal.mk 6 [] 2 (TColor.mk 0 0 0 0))) (some default)) fun y13 =>
 Option.bind (cond (cond x12 y13 false) (law26_none m 16 [50, 46, 48]) (some default)) fun y14 =>
 lt (cond (cond (cond y3 y4 false) y5 false) (cond (cond x12 y13 false) y14 false) false) fun x17 =>
 Option.bind (cond x17 (parseval_Shown 300 (TColor.mk 0 0 255 255)) (some default)) fun y18 =>
 lt (cond x17 (y18 == [114, 103, 98, 40, 48, 44, 32, 48, 44, 32, 50, 53, 53, 41]) false) fun x19 =>
 Option.bind (cond x19 (parseval_Shown 300 (TColor.mk 0 255 0 136)) (some default)) fun y20 =>
 lt (cond x19 (y20 == [35, 48, 48, 102, 102, 48, 48, 56, 56]) false) fun x21 =>
 some x21
def r25_Check (v_ : TVal) : Option (Int) :=
 Option.bind (
 cond (v_.Kind == 1) (
 cond (v_.Word == []) (
 some (.inl 8)) (
 some (.inr (1000000000000, v_.Word, 0, 0, 0, 0, 0)))) (
 Option.bind (
 cond (v_.Kind == 2) (
 some (v_.Kind == 2)) (
 cond (v_.Kind == 3) (
 some (v_.Kind == 3)) (
 cond (v_.Kind == 4) (
 some (v_.Kind == 4)) (
 some (v_.Kind == 5))))) fun (z29 : Bool) =>
 cond z29 (
 some (.inr (1000000000000, [], v_.Num, 0, 0, 0, 0))) (
 cond (v_.Kind == 6) (
 some (.inr (1000000000, [], v_.Num, 0, 0, 0, 0))) (
 cond (v_.Kind == 7) (
 some (.inr (1000000000000, [], 0, v_.Color.Red, v_.Color.Green, v_.Color.Blue, v_.Color.Alpha))) (
 cond (v_.Kind == 8) (
 some (.inr (1000000000000, [], 0, 0, 0, 0, 0))) (
 some (.inl 8))))))) fun (z15 : Sum (Int) (Int × Str × Int × Int × Int × Int × Int)) => sumK z15 fun s_z15 =>
 lt (!((v_.Kind == v_.Kind) && ((v_.Word == s_z15.2.1) && ((v_.Num == s_z15.2.2.1) && (((v_.Color.Red == s_z15.2.2.2.1) && ((v_.Color.Green == s_z15.2.2.2.2.1) && ((v_.Color.Blue == s_z15.2.2.2.2.2.1) && ((v_.Color.Alpha == s_z15.2.2.2.2.2.2) && true)))) && true))))) fun x69 =>
 lt (cond x69 true (decide (s_z15.1 < v_.Num))) fun x70 =>
 lt (cond x70 true (decide (v_.Num < (w64 (0 - s_z15.1))))) fun x71 =>
 cond x71 (
 some 8) (
 some 0)
def x_strings_TrimRight (x0 : Str) (x1 : Str) : Option Str := chk (ascB x1 = true ∧ x1.length < 4294967281 ∧ x0.length ≤ 9223372036854775807) (some (Lib.trimRightS x0 x1))
def parseval_number (n_ : Int) : Option (Str) :=
 Option.bind (
 cond (decide (n_ < 0)) (
 some (w64 (0 - n_), [45])) (
 some (n_, []))) fun (z5 : Int × Str) =>
 Option.bind (x_FormatInt10 (w64 (Int.tdiv z5.1 1000))) fun y11 =>
 Option.bind (
 cond (decide (0 < (Int.tmod z5.1 1000))) (
 Option.bind (x_FormatInt10 (w64 (1000 + (Int.tmod z5.1 1000)))) fun y19 =>
 chk (0 ≤ (1 : Int) ∧ (1 : Int) ≤ ln y19) <|
 Option.bind (x_strings_TrimRight (sub y19 1 (ln y19)) [48]) fun y21 =>
 chk (ln [46] + ln y21 ≤ 9223372036854775807) <|
 chk (ln y11 + ln ([46] ++ y21) ≤ 9223372036854775807) <|
 some (y11 ++ ([46] ++ y21))) (
 some y11)) fun (z14 : Str) =>
 chk (ln z5.2 + ln z14 ≤ 9223372036854775807) <|
 some (z5.2 ++ z14)
def parseval_Write (m : Nat) (v_ : TVal) : Option (Str × Int) :=
 Option.bind (props_Check v_) fun y6 =>
 cond (y6 != 0) (
 some ([], y6)) (
 Option.bind (
 Option.bind (
 cond (v_.Kind == 1) (
 some (.inl (.inl (v_.Word, 0)))) (
 cond (v_.Kind == 7) (
 Option.bind (parseval_Shown 300 v_.Color) fun y25 =>
 some (.inl (.inl (y25, 0)))) (
 cond (v_.Kind == 8) (
 some (.inl (.inl ([99, 117, 114, 114, 101, 110, 116, 99, 111, 108, 111, 114], 0)))) (
 cond (v_.Kind == 4) (
 some (.inr [114])) (
 cond (v_.Kind == 3) (
 some (.inr [])) (
 cond (v_.Kind == 2) (
 Option.bind (
 some (.inr ([112, 120], v_.Num))) fun r42 => some (.inl r42)) (
 cond (v_.Kind == 6) (
 Option.bind (
 some (.inr ([], w64 (v_.Num * 1000)))) fun r49 => some (.inl r49)) (
 Option.bind (
 some (.inr ([], v_.Num))) fun r50 => some (.inl r50))))))))) fun (z18 : Sum (Sum (Str × Int) (Str × Int)) (Str)) => sumK z18 fun s_z18 =>
 chk (ln s_z18 + ln [101, 109] ≤ 9223372036854775807) <|
 some (.inr (s_z18 ++ [101, 109], v_.Num))) fun (z15 : Sum (Str × Int) (Str × Int)) => sumK z15 fun s_z15 =>
 Option.bind (parseval_number s_z15.2) fun y62 =>
 chk (ln y62 + ln s_z15.1 ≤ 9223372036854775807) <|
 some (y62 ++ s_z15.1, 0))
def r04_Size_L1 (m : Nat) (v_ : List TValue) (most : Int) (rec_r04_Size : (List TValue) → Int → Option (Int)) : Nat → Int → Int → Option (Int)
 | 0, _, _ => none
 | kk + 1, v8, v9 =>
  lt (cond (decide (v9 < (ln v_))) (decide (v8 ≤ most)) false) fun x10 =>
  cond x10 (
  chk (0 ≤ v9 ∧ v9 < ln v_) <|
  lt (w64 ((w64 (1 + (ln ((gi v_ v9).Token.Text)))) + (ln ((gi v_ v9).Token.Unit)))) fun x14 =>
  Option.bind (rec_r04_Size ((gi v_ v9).List_) (w64 (most - v8))) fun y15 =>
  r04_Size_L1 m v_ most rec_r04_Size kk (w64 (v8 + (w64 (x14 + y15)))) (w64 (v9 + 1))) (
  some v8)
def r04_Size_r (m : Nat) : Nat → (List TValue) → Int → Option (Int)
 | 0, _, _ => none
 | k + 1, v_, most =>
  Option.bind (
  r04_Size_L1 m v_ most (r04_Size_r m k) m 0 0) fun (z5 : Int) =>
  some z5
def r04_Size (m : Nat) (v_ : List TValue) (most : Int) : Option (Int) := r04_Size_r m  m v_ most
def r04_Deep_L1 (m : Nat) (v_ : List TValue) (rec_r04_Deep : (List TValue) → Option (Int)) : Nat → Int → Int → Option (Int)
 | 0, _, _ => none
 | kk + 1, v8, v9 =>
  cond (decide (v9 < (ln v_))) (
  Option.bind (
  chk (0 ≤ v9 ∧ v9 < ln v_) <|
  lt ((r04_Closer ((gi v_ v9).Token.Kind)) != 0) fun x14 =>
  cond x14 (
  Option.bind (rec_r04_Deep ((gi v_ v9).List_)) fun y17 =>
  lt (if v8 < w64 (1 + y17) then w64 (1 + y17) else v8) fun x18 =>
  some x18) (
  some v8)) fun (z12 : Int) =>
  r04_Deep_L1 m v_ rec_r04_Deep kk z12 (w64 (v9 + 1))) (
  some v8)
def r04_Deep_r (m : Nat) : Nat → (List TValue) → Option (Int)
 | 0, _ => none
 | k + 1, v_ =>
  Option.bind (
  r04_Deep_L1 m v_ (r04_Deep_r m k) m 0 0) fun (z5 : Int) =>
  some z5
def r04_Deep (m : Nat) (v_ : List TValue) : Option (Int) := r04_Deep_r m  m v_
def r04_Great (m : Nat) (v_ : List TValue) : Option (Bool) :=
 Option.bind (r04_Size m v_ 300) fun y3 =>
 Option.bind (cond (decide (300 < y3)) (some default) (r04_Deep m v_)) fun y4 =>
 lt (cond (decide (300 < y3)) true (decide (40 < y4))) fun x5 =>
 some x5
def r26_Twin_L1 (m : Nat) (l_ : List TValue) (rec_r26_Twin : (List TValue) → Option (List TValue)) : Nat → (List TValue) → Int → Option (List TValue)
 | 0, _, _ => none
 | kk + 1, v9, v11 =>
  cond (decide (v11 < (ln l_))) (
  chk (0 ≤ v11 ∧ v11 < ln l_) <|
  Option.bind (rec_r26_Twin ((gi l_ v11).List_)) fun y17 =>
  chk (ln v9 + ln ([(TValue.mk ((gi l_ v11).Token) y17)] : List TValue) ≤ 1099511627776) <|
  lt (v9 ++ ([(TValue.mk ((gi l_ v11).Token) y17)] : List TValue)) fun q23 =>
  r26_Twin_L1 m l_ rec_r26_Twin kk q23 (w64 (v11 + 1))) (
  some v9)
def r26_Twin_r (m : Nat) : Nat → (List TValue) → Option (List TValue)
 | 0, _ => none
 | k + 1, l_ =>
  Option.bind (
  r26_Twin_L1 m l_ (r26_Twin_r m k) m ([] : List TValue) 0) fun (z5 : List TValue) =>
  some z5
def r26_Twin (m : Nat) (l_ : List TValue) : Option (List TValue) := r26_Twin_r m  m l_
def r26_Great_L1 (m : Nat) (s : Str) : Nat → Int → (List Int) → Option (List Int)
 | 0, _, _ => none
 | kk + 1, v14, v15 =>
  cond (decide (v14 < (ln (ofB s)))) (
  Option.bind (
  chk (0 ≤ v14 ∧ v14 < ln (ofB s)) <|
  lt (cond (decide (97 ≤ (gi v15 v14))) (decide ((gi v15 v14) ≤ 122)) false) fun x20 =>
  cond x20 (
  lt (seti v15 v14 (wu8 ((gi v15 v14) - 32))) fun q27 =>
  some q27) (
  some v15)) fun (z18 : List Int) =>
  r26_Great_L1 m s kk (w64 (v14 + 1)) z18) (
  some v15)
def r26_Great (m : Nat) (s : Str) : Option (Str) :=
 Option.bind (
 r26_Great_L1 m s m 0 (ofB s)) fun (z11 : List Int) =>
 some (toB z11)
def law26_ParsevalCase (m : Nat) (prop : Int) (l_ : List TValue) (at_ : Int) : Option (Bool) :=
 Option.bind (law26_alive 300) fun y3 =>
 Option.bind (r04_Great m l_) fun y6 =>
 lt (cond (cond y6 true ((ln l_) != 1)) true (!y3)) fun x7 =>
 cond x7 (
 some y3) (
 Option.bind (parseval_Parse m prop l_) fun y12 =>
 Option.bind (r26_Twin m l_) fun y24 =>
 chk (0 ≤ (0 : Int) ∧ (0 : Int) < ln y24) <|
 Option.bind (r26_Great m ((gi y24 (0 : Int)).Token.Text)) fun y33 =>
 Option.bind (r26_Great m ((gi y24 (0 : Int)).Token.Unit)) fun y34 =>
 lt (setl y24 (0 : Int) (TValue.mk (TToken.mk ((gi y24 (0 : Int)).Token.Kind) y33 ((gi y24 (0 : Int)).Token.Num) ((gi y24 (0 : Int)).Token.Unit) ((gi y24 (0 : Int)).Token.Flag)) ((gi y24 (0 : Int)).List_))) fun q36 =>
 chk (0 ≤ (0 : Int) ∧ (0 : Int) < ln q36) <|
 lt (setl q36 (0 : Int) (TValue.mk (TToken.mk ((gi q36 (0 : Int)).Token.Kind) ((gi q36 (0 : Int)).Token.Text) ((gi q36 (0 : Int)).Token.Num) y34 ((gi q36 (0 : Int)).Token.Flag)) ((gi q36 (0 : Int)).List_))) fun q39 =>
 Option.bind (parseval_Parse m prop q39) fun y45 =>
 lt (!((y12.1.Kind == y45.1.Kind) && ((y12.1.Word == y45.1.Word) && ((y12.1.Num == y45.1.Num) && (((y12.1.Color.Red == y45.1.Color.Red) && ((y12.1.Color.Green == y45.1.Color.Green) && ((y12.1.Color.Blue == y45.1.Color.Blue) && ((y12.1.Color.Alpha == y45.1.Color.Alpha) && true)))) && true))))) fun x55 =>
 cond (cond x55 true (y12.2 != y45.2)) (
 some false) (
 chk (0 ≤ (0 : Int) ∧ (0 : Int) < ln l_) <|
 lt (cond (((gi l_ (0 : Int)).Token.Kind) != 2) true (decide (at_ < 0))) fun x61 =>
 lt (cond x61 true (decide ((ln ((gi l_ (0 : Int)).List_)) < at_))) fun x62 =>
 cond x62 (
 some y3) (
 Option.bind (r26_Twin m l_) fun y69 =>
 chk (0 ≤ (0 : Int) ∧ (0 : Int) < ln y69) <|
 chk (0 ≤ (0 : Int) ∧ (0 : Int) ≤ at_ ∧ at_ ≤ ln ((gi y69 (0 : Int)).List_)) <|
 lt (subl ((gi y69 (0 : Int)).List_) (0 : Int) at_) fun q83 =>
 chk (ln ([] : List TValue) + ln q83 ≤ 1099511627776) <|
 lt (([] : List TValue) ++ q83) fun q90 =>
 chk (ln q90 + ln ([(TValue.mk (TToken.mk 13 [] 0 [] false) [])] : List TValue) ≤ 1099511627776) <|
 lt (q90 ++ ([(TValue.mk (TToken.mk 13 [] 0 [] false) [])] : List TValue)) fun q103 =>
 chk (0 ≤ at_ ∧ at_ ≤ (ln ((gi y69 (0 : Int)).List_)) ∧ (ln ((gi y69 (0 : Int)).List_)) ≤ ln ((gi y69 (0 : Int)).List_)) <|
 lt (subl ((gi y69 (0 : Int)).List_) at_ (ln ((gi y69 (0 : Int)).List_))) fun q113 =>
 chk (ln q103 + ln q113 ≤ 1099511627776) <|
 lt (q103 ++ q113) fun q119 =>
 lt (setl y69 (0 : Int) (TValue.mk ((gi y69 (0 : Int)).Token) q119)) fun q128 =>
 Option.bind (parseval_Parse m prop q128) fun y129 =>
 lt (cond y3 ((y12.1.Kind == y129.1.Kind) && ((y12.1.Word == y129.1.Word) && ((y12.1.Num == y129.1.Num) && (((y12.1.Color.Red == y129.1.Color.Red) && ((y12.1.Color.Green == y129.1.Color.Green) && ((y12.1.Color.Blue == y129.1.Color.Blue) && ((y12.1.Color.Alpha == y129.1.Color.Alpha) && true)))) && true)))) false) fun x136 =>
 some (cond x136 (y12.2 == y129.2) false))))
end Go.Proofs.YtemchjneoalnoaaGreatDoor

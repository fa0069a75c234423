/-
 What the Go functions compute, as Lean functions.
-/
import Derived.Test.YtehlikdeobajcaaGreatDoorVP
import Derived.Test.YtehlikdeobajcaaGreatDoorRU
set_option linter.unusedVariables false
set_option maxRecDepth 20000
set_option maxHeartbeats 4000000
namespace Go.Proofs.YtehlikdeobajcaaGreatDoor
open Go.V Go.RowKit
def gl_strings_asciiSpace : List Int := [0, 0, 0, 0, 0, 0, 0, 0, 0, 1, 1, 1, 1, 1, 0, 0, 0, 0, 0, 0, 0, 0, 0, 0, 0, 0, 0, 0, 0, 0, 0, 0, 1, 0, 0, 0, 0, 0, 0, 0, 0, 0, 0, 0, 0, 0, 0, 0, 0, 0, 0, 0, 0, 0, 0, 0, 0, 0, 0, 0, 0, 0, 0, 0, 0, 0, 0, 0, 0, 0, 0, 0, 0, 0, 0, 0, 0, 0, 0, 0, 0, 0, 0, 0, 0, 0, 0, 0, 0, 0, 0, 0, 0, 0, 0, 0, 0, 0, 0, 0, 0, 0, 0, 0, 0, 0, 0, 0, 0, 0, 0, 0, 0, 0, 0, 0, 0, 0, 0, 0, 0, 0, 0, 0, 0, 0, 0, 0, 0, 0, 0, 0, 0, 0, 0, 0, 0, 0, 0, 0, 0, 0, 0, 0, 0, 0, 0, 0, 0, 0, 0, 0, 0, 0, 0, 0, 0, 0, 0, 0, 0, 0, 0, 0, 0, 0, 0, 0, 0, 0, 0, 0, 0, 0, 0, 0, 0, 0, 0, 0, 0, 0, 0, 0, 0, 0, 0, 0, 0, 0, 0, 0, 0, 0, 0, 0, 0, 0, 0, 0, 0, 0, 0, 0, 0, 0, 0, 0, 0, 0, 0, 0, 0, 0, 0, 0, 0, 0, 0, 0, 0, 0, 0, 0, 0, 0, 0, 0, 0, 0, 0, 0, 0, 0, 0, 0, 0, 0, 0, 0, 0, 0, 0, 0, 0, 0, 0, 0, 0, 0, 0, 0, 0, 0, 0, 0]
structure TToken where
 Kind : Int
 Text : Str
 Num : Int
 Unit : Str
 Flag : Bool
instance : Inhabited TToken := ⟨⟨default, default, default, default, default⟩⟩
inductive TValue where
 | mk (Token : TToken) (List_ : List TValue)
def TValue.Token : TValue → TToken
 | .mk x _ => x
def TValue.List_ : TValue → List TValue
 | .mk _ x => x
instance : Inhabited TValue := ⟨.mk default default⟩
structure TLong where
 Name : Str
 Value : List TValue
 Whole : Str
instance : Inhabited TLong := ⟨⟨default, default, default⟩⟩
structure TWeight where
 e0 : Int
 e1 : Int
 e2 : Int
instance : Inhabited TWeight := ⟨⟨default, default, default⟩⟩
structure TDeclared where
 Long : TLong
 Important : Bool
 Origin : Int
 Attached : Bool
 Layer : Int
 Weight : TWeight
 Order : Int
instance : Inhabited TDeclared := ⟨⟨default, default, default, default, default, default, default⟩⟩
def r01_Cleaned_L1 (m : Nat) (s : Str) : Nat → Str → Int → Option (Str)
 | 0, _, _ => none
 | kk + 1, v8, v9 =>
  cond (decide (v9 < (ln s))) (
  Option.bind (
  chk (0 ≤ v9 ∧ v9 < ln s) <|
  lt (cond ((bat s v9) == 10) (decide (0 < v9)) false) fun x16 =>
  chk (x16 = true → 0 ≤ (w64 (v9 - 1)) ∧ (w64 (v9 - 1)) < ln s) <|
  lt (cond x16 ((bat s (w64 (v9 - 1))) == 13) false) fun x18 =>
  cond x18 (
  some v8) (
  Option.bind (
  lt (cond ((bat s v9) == 13) true ((bat s v9) == 12)) fun x22 =>
  cond x22 (
  some 10) (
  some (bat s v9))) fun (z21 : Int) =>
  cond (z21 == 0) (
  chk (ln v8 + ln (toB ([239, 191, 189] : List Int)) ≤ 9223372036854775807) <|
  some (v8 ++ (toB ([239, 191, 189] : List Int)))) (
  chk (ln v8 + ln (toB ([z21] : List Int)) ≤ 9223372036854775807) <|
  some (v8 ++ (toB ([z21] : List Int)))))) fun (z12 : Str) =>
  r01_Cleaned_L1 m s kk z12 (w64 (v9 + 1))) (
  some v8)
def r01_Cleaned (m : Nat) (s : Str) : Option (Str) :=
 Option.bind (
 r01_Cleaned_L1 m s m [] 0) fun (z5 : Str) =>
 some z5
def r01_Clean (m : Nat) (s : Str) : Option (Str × Int) :=
 cond (decide (4000 < (ln s))) (
 some ([], 28)) (
 Option.bind (r01_Cleaned m s) fun y7 =>
 some (y7, 0))
def r02_has (s : Str) (i : Int) (x_ : Str) : Option (Bool) :=
 chk ((decide ((ln x_) ≤ (w64 ((ln s) - i)))) = true → 0 ≤ i ∧ i ≤ (w64 (i + (ln x_))) ∧ (w64 (i + (ln x_))) ≤ ln s) <|
 lt (cond (decide ((ln x_) ≤ (w64 ((ln s) - i)))) ((sub s i (w64 (i + (ln x_)))) == x_) false) fun x4 =>
 some x4
def r02_Past_L2 (m : Nat) (s : Str) : Nat → Int → Option (Int)
 | 0, _ => none
 | kk + 1, v11 =>
  Option.bind (cond (decide (v11 < (ln s))) (r02_has s v11 [42, 47]) (some default)) fun y12 =>
  lt (cond (decide (v11 < (ln s))) (!y12) false) fun x13 =>
  cond x13 (
  r02_Past_L2 m s kk (w64 (v11 + 1))) (
  some v11)
def r02_Past_L1 (m : Nat) (s : Str) : Nat → Int → Option (Int)
 | 0, _ => none
 | kk + 1, v4 =>
  Option.bind (r02_has s v4 [47, 42]) fun y5 =>
  cond y5 (
  Option.bind (
  r02_Past_L2 m s m (w64 (v4 + 2))) fun (z10 : Int) =>
  lt (if w64 (z10 + 2) < ln s then w64 (z10 + 2) else ln s) fun x20 =>
  r02_Past_L1 m s kk x20) (
  some v4)
def r02_Past (m : Nat) (s : Str) (i : Int) : Option (Int) :=
 Option.bind (
 r02_Past_L1 m s m i) fun (z3 : Int) =>
 some z3
def r02_Space (c_ : Int) : Bool :=
 lt (cond (cond (c_ == 10) true (c_ == 9)) true (c_ == 32)) fun x3 =>
 x3
def r02_At (s : Str) (i : Int) : Option (Int) :=
 cond (decide (i < (ln s))) (
 chk (0 ≤ i ∧ i < ln s) <|
 some (bat s i)) (
 some 0)
def r02_spaces_L1 (m : Nat) (s : Str) : Nat → Int → Option (Int)
 | 0, _ => none
 | kk + 1, v4 =>
  Option.bind (r02_At s v4) fun y5 =>
  cond (r02_Space y5) (
  r02_spaces_L1 m s kk (w64 (v4 + 1))) (
  some v4)
def r02_spaces (m : Nat) (s : Str) (i : Int) : Option (Int) :=
 Option.bind (
 r02_spaces_L1 m s m i) fun (z3 : Int) =>
 some z3
def r02_lost  : Str :=
 toB ([239, 191, 189] : List Int)
def r02_Digit (c_ : Int) : Bool :=
 lt (cond (decide (48 ≤ c_)) (decide (c_ ≤ 57)) false) fun x3 =>
 x3
def r01_Small (c_ : Int) : Int :=
 lt (cond (decide (65 ≤ c_)) (decide (c_ ≤ 90)) false) fun x3 =>
 cond x3 (
 wu8 ((wu8 (c_ - 65)) + 97)) (
 c_)
def r02_Hex (c_ : Int) : Int :=
 cond (r02_Digit c_) (
 w64 (wu8 (c_ - 48))) (
 lt (cond (decide (97 ≤ (r01_Small c_))) (decide ((r01_Small c_) ≤ 102)) false) fun x9 =>
 cond x9 (
 lt (w64 ((w64 (wu8 ((r01_Small c_) - 97))) + 10)) fun x12 =>
 x12) (
 (-1)))
def r02_UTF8 (n_ : Int) : Str :=
 lt (cond (n_ == 0) true (cond (decide (55296 ≤ n_)) (decide (n_ ≤ 57343)) false)) fun x3 =>
 cond (cond x3 true (decide (1114111 < n_))) (
 r02_lost) (
 cond (decide (n_ < 128)) (
 toB ([wu8 n_] : List Int)) (
 cond (decide (n_ < 2048)) (
 lt (toB ([wu8 (w64 (192 + (w64 (Int.tdiv n_ 64)))), wu8 (w64 (128 + (Int.tmod n_ 64)))] : List Int)) fun x26 =>
 x26) (
 cond (decide (n_ < 65536)) (
 lt (wu8 (w64 (224 + (w64 (Int.tdiv n_ 4096))))) fun x31 =>
 lt (w64 (128 + (Int.tmod (w64 (Int.tdiv n_ 64)) 64))) fun x32 =>
 lt (toB ([x31, wu8 x32, wu8 (w64 (128 + (Int.tmod n_ 64)))] : List Int)) fun x39 =>
 x39) (
 lt (wu8 (w64 (240 + (w64 (Int.tdiv n_ 262144))))) fun x42 =>
 lt (w64 (128 + (Int.tmod (w64 (Int.tdiv n_ 4096)) 64))) fun x43 =>
 lt (w64 (128 + (Int.tmod (w64 (Int.tdiv n_ 64)) 64))) fun x44 =>
 lt (toB ([x42, wu8 x43, wu8 x44, wu8 (w64 (128 + (Int.tmod n_ 64)))] : List Int)) fun x51 =>
 x51))))
def r02_Escaped_L1 (m : Nat) (s : Str) (i : Int) : Nat → Int → Int → Option (Int × Int)
 | 0, _, _ => none
 | kk + 1, v20, v21 =>
  lt (cond (decide (v21 < (ln s))) (decide (v21 < (w64 ((w64 (i + 1)) + 6)))) false) fun x22 =>
  chk (x22 = true → 0 ≤ v21 ∧ v21 < ln s) <|
  lt (cond x22 (decide (0 ≤ (r02_Hex (bat s v21)))) false) fun x24 =>
  cond x24 (
  chk (0 ≤ v21 ∧ v21 < ln s) <|
  lt (w64 ((w64 (16 * v20)) + (r02_Hex (bat s v21)))) fun x28 =>
  r02_Escaped_L1 m s i kk x28 (w64 (v21 + 1))) (
  some (v20, v21))
def r02_Escaped (m : Nat) (s : Str) (i : Int) : Option (Str × Int) :=
 cond (decide ((ln s) ≤ (w64 (i + 1)))) (
 some (r02_lost, w64 (i + 1))) (
 chk (0 ≤ (w64 (i + 1)) ∧ (w64 (i + 1)) < ln s) <|
 lt (decide ((r02_Hex (bat s (w64 (i + 1)))) < 0)) fun x10 =>
 cond x10 (
 chk (0 ≤ (w64 (i + 1)) ∧ (w64 (i + 1)) ≤ (w64 ((w64 (i + 1)) + 1)) ∧ (w64 ((w64 (i + 1)) + 1)) ≤ ln s) <|
 lt (sub s (w64 (i + 1)) (w64 ((w64 (i + 1)) + 1))) fun x14 =>
 some (x14, w64 ((w64 (i + 1)) + 1))) (
 Option.bind (
 r02_Escaped_L1 m s i m 0 (w64 (i + 1))) fun (z19 : Int × Int) =>
 Option.bind (
 Option.bind (r02_At s z19.2) fun y36 =>
 cond (r02_Space y36) (
 some (w64 (z19.2 + 1))) (
 some z19.2)) fun (z35 : Int) =>
 some ((r02_UTF8 z19.1), z35)))
def r02_quoted_L1 (m : Nat) (s : Str) (i : Int) : Nat → Int → Str → Option (Sum (TToken × Int) (Int × Str))
 | 0, _, _ => none
 | kk + 1, v19, v20 =>
  cond (decide (v19 < (ln s))) (
  chk (0 ≤ v19 ∧ v19 < ln s) <|
  cond ((bat s v19) == (bat s i)) (
  some (.inl ((TToken.mk 5 v20 0 [] false), w64 (v19 + 1)))) (
  cond ((bat s v19) == 10) (
  some (.inl ((TToken.mk 6 [] 0 [] false), v19))) (
  lt (cond ((bat s v19) == 92) ((w64 (v19 + 1)) == (ln s)) false) fun x40 =>
  cond x40 (
  r02_quoted_L1 m s i kk (w64 (v19 + 1)) v20) (
  chk (((bat s v19) == 92) = true → 0 ≤ (w64 (v19 + 1)) ∧ (w64 (v19 + 1)) < ln s) <|
  lt (cond ((bat s v19) == 92) ((bat s (w64 (v19 + 1))) == 10) false) fun x46 =>
  cond x46 (
  r02_quoted_L1 m s i kk (w64 (v19 + 2)) v20) (
  cond ((bat s v19) == 92) (
  Option.bind (r02_Escaped m s v19) fun y53 =>
  chk (ln v20 + ln y53.1 ≤ 9223372036854775807) <|
  r02_quoted_L1 m s i kk y53.2 (v20 ++ y53.1)) (
  chk (0 ≤ v19 ∧ v19 ≤ (w64 (v19 + 1)) ∧ (w64 (v19 + 1)) ≤ ln s) <|
  chk (ln v20 + ln (sub s v19 (w64 (v19 + 1))) ≤ 9223372036854775807) <|
  r02_quoted_L1 m s i kk (w64 (v19 + 1)) (v20 ++ (sub s v19 (w64 (v19 + 1)))))))))) (
  some (.inr (v19, v20)))
def r02_quoted (m : Nat) (s : Str) (i : Int) : Option (TToken × Int) :=
 chk (0 ≤ i ∧ i < ln s) <|
 Option.bind (
 r02_quoted_L1 m s i m (w64 (i + 1)) []) fun (z16 : Sum (TToken × Int) (Int × Str)) => sumK z16 fun s_z16 =>
 some ((TToken.mk 5 s_z16.2 0 [] false), s_z16.1)
def r02_Starts (c_ : Int) : Bool :=
 lt (cond (decide (97 ≤ (r01_Small c_))) (decide ((r01_Small c_) ≤ 122)) false) fun x5 =>
 lt (cond (cond x5 true (c_ == 95)) true (decide (128 ≤ c_))) fun x6 =>
 x6
def r02_Letter (c_ : Int) : Bool :=
 lt (cond (cond (r02_Starts c_) true (r02_Digit c_)) true (c_ == 45)) fun x3 =>
 x3
def r02_Escape (s : Str) (i : Int) : Option (Bool) :=
 Option.bind (r02_At s i) fun y3 =>
 Option.bind (cond (y3 == 92) (r02_At s (w64 (i + 1))) (some default)) fun y4 =>
 some (cond (y3 == 92) (y4 != 10) false)
def r02_Named_L1 (m : Nat) (s : Str) : Nat → Int → Str → Option (Str × Int)
 | 0, _, _ => none
 | kk + 1, v5, v6 =>
  chk ((decide (v5 < (ln s))) = true → 0 ≤ v5 ∧ v5 < ln s) <|
  lt (cond (decide (v5 < (ln s))) (r02_Letter (bat s v5)) false) fun x8 =>
  cond x8 (
  chk (0 ≤ v5 ∧ v5 ≤ (w64 (v5 + 1)) ∧ (w64 (v5 + 1)) ≤ ln s) <|
  chk (ln v6 + ln (sub s v5 (w64 (v5 + 1))) ≤ 9223372036854775807) <|
  r02_Named_L1 m s kk (w64 (v5 + 1)) (v6 ++ (sub s v5 (w64 (v5 + 1))))) (
  Option.bind (cond (decide (v5 < (ln s))) (r02_Escape s v5) (some default)) fun y17 =>
  cond (cond (decide (v5 < (ln s))) y17 false) (
  Option.bind (r02_Escaped m s v5) fun y20 =>
  chk (ln v6 + ln y20.1 ≤ 9223372036854775807) <|
  r02_Named_L1 m s kk y20.2 (v6 ++ y20.1)) (
  some (v6, v5)))
def r02_Named (m : Nat) (s : Str) (i : Int) : Option (Str × Int) :=
 r02_Named_L1 m s m i []
def r02_NameAt (s : Str) (i : Int) : Option (Bool) :=
 Option.bind (r02_At s i) fun y3 =>
 cond (y3 == 45) (
 Option.bind (r02_At s (w64 (i + 1))) fun y6 =>
 Option.bind (cond (r02_Starts y6) (some default) (r02_At s (w64 (i + 1)))) fun y7 =>
 Option.bind (cond (cond (r02_Starts y6) true (y7 == 45)) (some default) (r02_Escape s (w64 (i + 1)))) fun y8 =>
 lt (cond (cond (r02_Starts y6) true (y7 == 45)) true y8) fun x9 =>
 some x9) (
 Option.bind (r02_At s i) fun y12 =>
 Option.bind (cond (r02_Starts y12) (some default) (r02_Escape s i)) fun y13 =>
 some (cond (r02_Starts y12) true y13))
def r02_NumberAt (s : Str) (i : Int) : Option (Bool) :=
 Option.bind (
 Option.bind (r02_At s i) fun y4 =>
 cond (cond (y4 == 43) true (y4 == 45)) (
 some (w64 (i + 1))) (
 some i)) fun (z3 : Int) =>
 Option.bind (
 Option.bind (r02_At s z3) fun y13 =>
 cond (y13 == 46) (
 some (w64 (z3 + 1))) (
 some z3)) fun (z12 : Int) =>
 Option.bind (r02_At s z12) fun y19 =>
 some (r02_Digit y19)
def r02_digits_L1 (m : Nat) (s : Str) : Nat → Int → Option (Int)
 | 0, _ => none
 | kk + 1, v4 =>
  Option.bind (r02_At s v4) fun y5 =>
  cond (r02_Digit y5) (
  r02_digits_L1 m s kk (w64 (v4 + 1))) (
  some v4)
def r02_digits (m : Nat) (s : Str) (i : Int) : Option (Int) :=
 Option.bind (
 r02_digits_L1 m s m i) fun (z3 : Int) =>
 some z3
def r02_NumberEnd (m : Nat) (s : Str) (i : Int) : Option (Int × Bool) :=
 Option.bind (
 Option.bind (r02_At s i) fun y4 =>
 cond (cond (y4 == 43) true (y4 == 45)) (
 some (w64 (i + 1))) (
 some i)) fun (z3 : Int) =>
 Option.bind (r02_digits m s z3) fun y12 =>
 Option.bind (
 Option.bind (r02_At s y12) fun y18 =>
 Option.bind (cond (y18 == 46) (r02_At s (w64 (y12 + 1))) (some default)) fun y19 =>
 cond (cond (y18 == 46) (r02_Digit y19) false) (
 Option.bind (r02_digits m s (w64 (y12 + 1))) fun y24 =>
 some (y24, false)) (
 some (y12, true))) fun (z17 : Int × Bool) =>
 Option.bind (
 Option.bind (r02_At s z17.1) fun y29 =>
 cond (cond (y29 == 101) true (y29 == 69)) (
 Option.bind (
 Option.bind (r02_At s (w64 (z17.1 + 1))) fun y37 =>
 cond (cond (y37 == 43) true (y37 == 45)) (
 some (w64 ((w64 (z17.1 + 1)) + 1))) (
 some (w64 (z17.1 + 1)))) fun (z36 : Int) =>
 Option.bind (r02_At s z36) fun y45 =>
 cond (r02_Digit y45) (
 Option.bind (r02_digits m s z36) fun y50 =>
 some (y50, false)) (
 some (z17.1, z17.2))) (
 some (z17.1, z17.2))) fun (z28 : Int × Bool) =>
 some (z28.1, z28.2)
def r02_Thousandths_L1 (m : Nat) (s : Str) : Nat → Str → Int → Option (Str × Int)
 | 0, _, _ => none
 | kk + 1, v16, v17 =>
  Option.bind (r02_At s v17) fun y18 =>
  cond (r02_Digit y18) (
  chk (0 ≤ v17 ∧ v17 ≤ (w64 (v17 + 1)) ∧ (w64 (v17 + 1)) ≤ ln s) <|
  chk (ln v16 + ln (sub s v17 (w64 (v17 + 1))) ≤ 9223372036854775807) <|
  r02_Thousandths_L1 m s kk (v16 ++ (sub s v17 (w64 (v17 + 1)))) (w64 (v17 + 1))) (
  some (v16, v17))
def r02_Thousandths_L2 (m : Nat) (s : Str) : Nat → Str → Int → Int → Option (Str × Int × Int)
 | 0, _, _, _ => none
 | kk + 1, v35, v36, v37 =>
  Option.bind (r02_At s v37) fun y38 =>
  cond (r02_Digit y38) (
  chk (0 ≤ v37 ∧ v37 ≤ (w64 (v37 + 1)) ∧ (w64 (v37 + 1)) ≤ ln s) <|
  chk (ln v35 + ln (sub s v37 (w64 (v37 + 1))) ≤ 9223372036854775807) <|
  r02_Thousandths_L2 m s kk (v35 ++ (sub s v37 (w64 (v37 + 1)))) (w64 (v36 - 1)) (w64 (v37 + 1))) (
  some (v35, v36, v37))
def r02_Thousandths_L3 (m : Nat) (s : Str) : Nat → Int → Int → Option (Int)
 | 0, _, _ => none
 | kk + 1, v70, v71 =>
  cond (decide (v70 < (ln s))) (
  chk (0 ≤ v70 ∧ v70 < ln s) <|
  lt (w64 ((w64 (10 * v71)) + (w64 (wu8 ((bat s v70) - 48))))) fun x75 =>
  r02_Thousandths_L3 m s kk (w64 (v70 + 1)) (if x75 < 10000 then x75 else 10000)) (
  some v71)
def r02_Thousandths_L4 (m : Nat) (z29 : Str × Int × Int) (z52 : Int) : Nat → Int → Int → Option (Int)
 | 0, _, _ => none
 | kk + 1, v99, v100 =>
  lt (cond (decide (v100 < (w64 ((ln z29.1) + z52)))) (decide (v100 < (ln z29.1))) false) fun x101 =>
  cond x101 (
  chk (0 ≤ v100 ∧ v100 < ln z29.1) <|
  lt (w64 ((w64 (10 * v99)) + (w64 (wu8 ((bat z29.1 v100) - 48))))) fun x105 =>
  lt (if x105 < 1000000000000 then x105 else 1000000000000) fun x106 =>
  r02_Thousandths_L4 m z29 z52 kk x106 (w64 (v100 + 1))) (
  some v99)
def r02_Thousandths_L5 (m : Nat)  : Nat → Int → Int → Option (Int)
 | 0, _, _ => none
 | kk + 1, v114, v115 =>
  lt (cond (decide (0 < v114)) (decide (0 < v115)) false) fun x116 =>
  lt (cond x116 (decide (v115 < 1000000000000)) false) fun x117 =>
  cond x117 (
  lt (if w64 (10 * v115) < 1000000000000 then w64 (10 * v115) else 1000000000000) fun x120 =>
  r02_Thousandths_L5 m  kk (w64 (v114 - 1)) x120) (
  some v115)
def r02_Thousandths (m : Nat) (s : Str) : Option (Int) :=
 chk (0 ≤ (0 : Int) ∧ (0 : Int) < ln s) <|
 Option.bind (
 lt (cond ((bat s 0) == 43) true ((bat s 0) == 45)) fun x9 =>
 cond x9 (
 some 1) (
 some 0)) fun (z8 : Int) =>
 Option.bind (
 r02_Thousandths_L1 m s m [] z8) fun (z15 : Str × Int) =>
 Option.bind (
 Option.bind (r02_At s z15.2) fun y30 =>
 cond (y30 == 46) (
 r02_Thousandths_L2 m s m z15.1 3 (w64 (z15.2 + 1))) (
 some (z15.1, 3, z15.2))) fun (z29 : Str × Int × Int) =>
 Option.bind (
 cond (decide (z29.2.2 < (ln s))) (
 chk (0 ≤ (w64 (z29.2.2 + 1)) ∧ (w64 (z29.2.2 + 1)) < ln s) <|
 Option.bind (
 lt (cond ((bat s (w64 (z29.2.2 + 1))) == 43) true ((bat s (w64 (z29.2.2 + 1))) == 45)) fun x61 =>
 cond x61 (
 some (w64 ((w64 (z29.2.2 + 1)) + 1))) (
 some (w64 (z29.2.2 + 1)))) fun (z60 : Int) =>
 Option.bind (
 r02_Thousandths_L3 m s m z60 0) fun (z69 : Int) =>
 Option.bind (
 cond ((bat s (w64 (z29.2.2 + 1))) == 45) (
 some (w64 (0 - z69))) (
 some z69)) fun (z82 : Int) =>
 some (w64 (z29.2.1 + z82))) (
 some z29.2.1)) fun (z52 : Int) =>
 Option.bind (
 r02_Thousandths_L4 m z29 z52 m 0 0) fun (z96 : Int) =>
 Option.bind (
 r02_Thousandths_L5 m  m z52 z96) fun (z113 : Int) =>
 cond ((bat s 0) == 45) (
 some (w64 (0 - z113))) (
 some z113)
def r02_numeric (m : Nat) (s : Str) (i : Int) : Option (TToken × Int) :=
 Option.bind (r02_NumberEnd m s i) fun y6 =>
 chk (0 ≤ i ∧ i ≤ y6.1 ∧ y6.1 ≤ ln s) <|
 Option.bind (r02_Thousandths m (sub s i y6.1)) fun y10 =>
 Option.bind (
 Option.bind (r02_NameAt s y6.1) fun y19 =>
 cond y19 (
 Option.bind (r02_Named m s y6.1) fun y26 =>
 some (y26.2, 12, y26.1, y6.2)) (
 Option.bind (r02_At s y6.1) fun y33 =>
 cond (y33 == 37) (
 some (w64 (y6.1 + 1), 11, [], false)) (
 some (y6.1, 10, [], y6.2)))) fun (z18 : Int × Int × Str × Bool) =>
 some ((TToken.mk z18.2.1 [] y10 z18.2.2.1 z18.2.2.2), z18.1)
def r01_Lower_L1 (m : Nat) (s : Str) : Nat → Int → (List Int) → Option (List Int)
 | 0, _, _ => none
 | kk + 1, v14, v15 =>
  cond (decide (v14 < (ln (ofB s)))) (
  chk (0 ≤ v14 ∧ v14 < ln (ofB s)) <|
  lt (seti v15 v14 (r01_Small (gi v15 v14))) fun q23 =>
  r01_Lower_L1 m s kk (w64 (v14 + 1)) q23) (
  some v15)
def r01_Lower (m : Nat) (s : Str) : Option (Str) :=
 Option.bind (
 r01_Lower_L1 m s m 0 (ofB s)) fun (z11 : List Int) =>
 some (toB z11)
def r01_Alike (m : Nat) (a_ : Str) (b_ : Str) : Option (Bool) :=
 Option.bind (r01_Lower m a_) fun y3 =>
 Option.bind (r01_Lower m b_) fun y4 =>
 some (y3 == y4)
def r02_bad_L1 (m : Nat) (s : Str) : Nat → Int → Option (Int)
 | 0, _ => none
 | kk + 1, v7 =>
  chk ((decide (v7 < (ln s))) = true → 0 ≤ v7 ∧ v7 < ln s) <|
  lt (cond (decide (v7 < (ln s))) ((bat s v7) != 41) false) fun x9 =>
  cond x9 (
  Option.bind (r02_Escape s v7) fun y12 =>
  cond y12 (
  Option.bind (r02_Escaped m s v7) fun y15 =>
  r02_bad_L1 m s kk y15.2) (
  r02_bad_L1 m s kk (w64 (v7 + 1)))) (
  some v7)
def r02_bad (m : Nat) (s : Str) (i : Int) : Option (TToken × Int) :=
 Option.bind (
 r02_bad_L1 m s m i) fun (z6 : Int) =>
 lt (if w64 (z6 + 1) < ln s then w64 (z6 + 1) else ln s) fun x23 =>
 some ((TToken.mk 8 [] 0 [] false), x23)
def r02_Unprintable (c_ : Int) : Bool :=
 lt (cond (cond (decide (c_ ≤ 8)) true (c_ == 11)) true (cond (decide (14 ≤ c_)) (decide (c_ ≤ 31)) false)) fun x3 =>
 cond x3 true (c_ == 127)
def r02_url_L1 (m : Nat) (s : Str) : Nat → Int → Str → Option (Sum (TToken × Int) (Int × Str))
 | 0, _, _ => none
 | kk + 1, v17, v18 =>
  chk ((decide (v17 < (ln s))) = true → 0 ≤ v17 ∧ v17 < ln s) <|
  lt (cond (decide (v17 < (ln s))) ((bat s v17) != 41) false) fun x20 =>
  cond x20 (
  chk (0 ≤ v17 ∧ v17 < ln s) <|
  cond (r02_Space (bat s v17)) (
  Option.bind (r02_spaces m s v17) fun y28 =>
  chk ((decide (y28 < (ln s))) = true → 0 ≤ y28 ∧ y28 < ln s) <|
  lt (cond (decide (y28 < (ln s))) ((bat s y28) != 41) false) fun x32 =>
  cond x32 (
  Option.bind (r02_bad m s y28) fun y35 =>
  some (.inl (y35.1, y35.2))) (
  r02_url_L1 m s kk y28 v18)) (
  lt (cond ((bat s v17) == 34) true ((bat s v17) == 39)) fun x43 =>
  lt (cond (cond x43 true ((bat s v17) == 40)) true (r02_Unprintable (bat s v17))) fun x44 =>
  Option.bind (cond x44 (some default) (cond ((bat s v17) == 92) (r02_Escape s v17) (some default))) fun y45 =>
  lt (cond x44 true (cond ((bat s v17) == 92) (!y45) false)) fun x46 =>
  cond x46 (
  Option.bind (r02_bad m s v17) fun y49 =>
  some (.inl (y49.1, y49.2))) (
  cond ((bat s v17) == 92) (
  Option.bind (r02_Escaped m s v17) fun y58 =>
  chk (ln v18 + ln y58.1 ≤ 9223372036854775807) <|
  r02_url_L1 m s kk y58.2 (v18 ++ y58.1)) (
  chk (0 ≤ v17 ∧ v17 ≤ (w64 (v17 + 1)) ∧ (w64 (v17 + 1)) ≤ ln s) <|
  chk (ln v18 + ln (sub s v17 (w64 (v17 + 1))) ≤ 9223372036854775807) <|
  r02_url_L1 m s kk (w64 (v17 + 1)) (v18 ++ (sub s v17 (w64 (v17 + 1)))))))) (
  some (.inr (v17, v18)))
def r02_url (m : Nat) (s : Str) (i : Int) : Option (TToken × Int) :=
 Option.bind (
 Option.bind (r02_spaces m s i) fun y14 =>
 r02_url_L1 m s m y14 []) fun (z13 : Sum (TToken × Int) (Int × Str)) => sumK z13 fun s_z13 =>
 lt (if w64 (s_z13.1 + 1) < ln s then w64 (s_z13.1 + 1) else ln s) fun x81 =>
 some ((TToken.mk 7 s_z13.2 0 [] false), x81)
def r02_word (m : Nat) (s : Str) (i : Int) : Option (TToken × Int) :=
 Option.bind (r02_Named m s i) fun y6 =>
 Option.bind (r02_At s y6.2) fun y9 =>
 cond (y9 != 40) (
 some ((TToken.mk 1 y6.1 0 [] false), y6.2)) (
 Option.bind (
 Option.bind (r01_Alike m y6.1 [117, 114, 108]) fun y19 =>
 cond y19 (
 Option.bind (r02_spaces m s (w64 (y6.2 + 1))) fun y22 =>
 Option.bind (r02_At s y22) fun y23 =>
 cond (cond (y23 != 34) (y23 != 39) false) (
 Option.bind (r02_url m s (w64 (y6.2 + 1))) fun y28 =>
 some (.inl (y28.1, y28.2))) (
 some (.inr ()))) (
 some (.inr ()))) fun (z18 : Sum (TToken × Int) (Unit)) => sumK z18 fun s_z18 =>
 some ((TToken.mk 2 y6.1 0 [] false), w64 (y6.2 + 1)))
def r02_mark (c_ : Int) : Int :=
 cond (c_ == 58) (
 16) (
 cond (c_ == 59) (
 17) (
 cond (c_ == 44) (
 18) (
 cond (c_ == 91) (
 19) (
 cond (c_ == 93) (
 20) (
 cond (c_ == 40) (
 21) (
 cond (c_ == 41) (
 22) (
 cond (c_ == 123) (
 23) (
 cond (c_ == 125) (
 24) (
 0)))))))))
def r02_One (m : Nat) (s : Str) (i : Int) : Option (TToken × Int) :=
 chk (0 ≤ i ∧ i < ln s) <|
 cond (r02_Space (bat s i)) (
 Option.bind (r02_spaces m s i) fun y11 =>
 some ((TToken.mk 13 [] 0 [] false), y11)) (
 lt (cond ((bat s i) == 34) true ((bat s i) == 39)) fun x18 =>
 cond x18 (
 Option.bind (r02_quoted m s i) fun y21 =>
 some (y21.1, y21.2)) (
 chk ((decide ((w64 (i + 1)) < (ln s))) = true → ((bat s i) == 35) = true → 0 ≤ (w64 (i + 1)) ∧ (w64 (i + 1)) < ln s) <|
 Option.bind (cond ((bat s i) == 35) (cond (cond (decide ((w64 (i + 1)) < (ln s))) (r02_Letter (bat s (w64 (i + 1)))) false) (some default) (r02_Escape s (w64 (i + 1)))) (some default)) fun y29 =>
 lt (cond ((bat s i) == 35) (cond (cond (decide ((w64 (i + 1)) < (ln s))) (r02_Letter (bat s (w64 (i + 1)))) false) true y29) false) fun x30 =>
 cond x30 (
 Option.bind (r02_Named m s (w64 (i + 1))) fun y33 =>
 Option.bind (r02_NameAt s (w64 (i + 1))) fun y36 =>
 some ((TToken.mk 4 y33.1 0 [] y36), y33.2)) (
 Option.bind (r02_NumberAt s i) fun y43 =>
 cond y43 (
 Option.bind (r02_numeric m s i) fun y46 =>
 some (y46.1, y46.2)) (
 Option.bind (r02_has s i [45, 45, 62]) fun y53 =>
 cond y53 (
 some ((TToken.mk 15 [] 0 [] false), w64 (i + 3))) (
 Option.bind (r02_has s i [60, 33, 45, 45]) fun y62 =>
 cond y62 (
 some ((TToken.mk 14 [] 0 [] false), w64 (i + 4))) (
 Option.bind (cond ((bat s i) == 64) (r02_NameAt s (w64 (i + 1))) (some default)) fun y71 =>
 cond (cond ((bat s i) == 64) y71 false) (
 Option.bind (r02_Named m s (w64 (i + 1))) fun y74 =>
 some ((TToken.mk 3 y74.1 0 [] false), y74.2)) (
 Option.bind (r02_NameAt s i) fun y83 =>
 cond y83 (
 Option.bind (r02_word m s i) fun y86 =>
 some (y86.1, y86.2)) (
 cond ((r02_mark (bat s i)) != 0) (
 some ((TToken.mk (r02_mark (bat s i)) [] 0 [] false), w64 (i + 1))) (
 chk (0 ≤ i ∧ i ≤ (w64 (i + 1)) ∧ (w64 (i + 1)) ≤ ln s) <|
 some ((TToken.mk 9 (sub s i (w64 (i + 1))) 0 [] false), w64 (i + 1)))))))))))
structure TA2_int where
 e0 : Int
 e1 : Int
instance : Inhabited TA2_int := ⟨⟨default, default⟩⟩
def r02_Cut_L1 (m : Nat) (s : Str) : Nat → (List TToken) → (List TA2_int) → Int → Option ((List TToken) × (List TA2_int))
 | 0, _, _, _ => none
 | kk + 1, v13, v15, v17 =>
  cond (decide (v17 < (ln s))) (
  Option.bind (r02_One m s v17) fun y20 =>
  chk (ln v13 + ln ([y20.1] : List TToken) ≤ 1099511627776) <|
  lt (v13 ++ ([y20.1] : List TToken)) fun q37 =>
  chk (ln v15 + ln ([(TA2_int.mk v17 y20.2)] : List TA2_int) ≤ 1099511627776) <|
  lt (v15 ++ ([(TA2_int.mk v17 y20.2)] : List TA2_int)) fun q48 =>
  Option.bind (r02_Past m s y20.2) fun y54 =>
  r02_Cut_L1 m s kk q37 q48 y54) (
  some (v13, v15))
def r02_Cut (m : Nat) (s : Str) : Option ((List TToken) × (List TA2_int)) :=
 Option.bind (
 Option.bind (r02_Past m s 0) fun y8 =>
 r02_Cut_L1 m s m ([] : List TToken) ([] : List TA2_int) y8) fun (z7 : (List TToken) × (List TA2_int)) =>
 some (z7.1, z7.2)
def r02_Tokens (m : Nat) (s : Str) : Option ((List TToken) × Int) :=
 Option.bind (r01_Clean m s) fun y3 =>
 cond (y3.2 != 0) (
 some (([] : List TToken), y3.2)) (
 Option.bind (r02_Cut m y3.1) fun y13 =>
 cond (decide (1500 < (ln y13.1))) (
 some (([] : List TToken), 4)) (
 some (y13.1, 0)))
def r04_Closer (kind : Int) : Int :=
 cond (kind == 19) (
 20) (
 lt (
 cond (kind == 21) (
 kind == 21) (
 kind == 2)) fun (z9 : Bool) =>
 cond z9 (
 22) (
 cond (kind == 23) (
 24) (
 0)))
def r04_values_L1 (m : Nat) (l_ : List TToken) (closer : Int) (left : Int) (rec_r04_values : (List TToken) → Int → Int → Int → Option ((List TValue) × Int)) : Nat → Int → (List TValue) → Option (Sum ((List TValue) × Int) (Int × (List TValue)))
 | 0, _, _ => none
 | kk + 1, v7, v8 =>
  chk ((closer == 0) = false → (decide (v7 < (ln l_))) = true → 0 ≤ v7 ∧ v7 < ln l_) <|
  lt (cond (decide (v7 < (ln l_))) (cond (closer == 0) true (((gi l_ v7).Kind) != closer)) false) fun x11 =>
  cond x11 (
  chk (0 ≤ v7 ∧ v7 < ln l_) <|
  Option.bind (
  cond ((r04_Closer ((gi l_ v7).Kind)) != 0) (
  cond (left == 0) (
  some (.inl (.inl (([] : List TValue), (-1))))) (
  Option.bind (rec_r04_values l_ (w64 (v7 + 1)) (r04_Closer ((gi l_ v7).Kind)) (w64 (left - 1))) fun y36 =>
  cond (decide (y36.2 < 0)) (
  some (.inl (.inl (([] : List TValue), (-1))))) (
  some (.inr (y36.2, y36.1))))) (
  some (.inr (w64 (v7 + 1), ([] : List TValue))))) fun (z24 : Sum (Sum ((List TValue) × Int) (Int × (List TValue))) (Int × (List TValue))) => sumK z24 fun s_z24 =>
  chk (ln v8 + ln ([(TValue.mk (gi l_ v7) s_z24.2)] : List TValue) ≤ 1099511627776) <|
  lt (v8 ++ ([(TValue.mk (gi l_ v7) s_z24.2)] : List TValue)) fun q65 =>
  r04_values_L1 m l_ closer left rec_r04_values kk s_z24.1 q65) (
  some (.inr (v7, v8)))
def r04_values_r (m : Nat) : Nat → (List TToken) → Int → Int → Int → Option ((List TValue) × Int)
 | 0, _, _, _, _ => none
 | k + 1, l_, i, closer, left =>
  Option.bind (
  r04_values_L1 m l_ closer left (r04_values_r m k) m i ([] : List TValue)) fun (z5 : Sum ((List TValue) × Int) (Int × (List TValue))) => sumK z5 fun s_z5 =>
  lt (if w64 (s_z5.1 + 1) < ln l_ then w64 (s_z5.1 + 1) else ln l_) fun x76 =>
  some (s_z5.2, x76)
def r04_values (m : Nat) (l_ : List TToken) (i : Int) (closer : Int) (left : Int) : Option ((List TValue) × Int) := r04_values_r m  m l_ i closer left
def r04_Parsed (m : Nat) (l_ : List TToken) : Option ((List TValue) × Bool) :=
 Option.bind (r04_values m l_ 0 0 16) fun y5 =>
 some (y5.1, decide (0 ≤ y5.2))
def r04_Tokens_L1 (m : Nat) (v_ : List TValue) (rec_r04_Tokens : (List TValue) → Option (List TToken)) : Nat → (List TToken) → Int → Option (List TToken)
 | 0, _, _ => none
 | kk + 1, v9, v11 =>
  cond (decide (v11 < (ln v_))) (
  Option.bind (
  chk (0 ≤ v11 ∧ v11 < ln v_) <|
  chk (ln v9 + ln ([(gi v_ v11).Token] : List TToken) ≤ 1099511627776) <|
  lt (v9 ++ ([(gi v_ v11).Token] : List TToken)) fun q23 =>
  lt ((r04_Closer ((gi v_ v11).Token.Kind)) != 0) fun x31 =>
  cond x31 (
  Option.bind (rec_r04_Tokens ((gi v_ v11).List_)) fun y37 =>
  chk (ln q23 + ln y37 ≤ 1099511627776) <|
  lt (q23 ++ y37) fun q43 =>
  chk (ln q43 + ln ([(TToken.mk (r04_Closer ((gi v_ v11).Token.Kind)) [] 0 [] false)] : List TToken) ≤ 1099511627776) <|
  lt (q43 ++ ([(TToken.mk (r04_Closer ((gi v_ v11).Token.Kind)) [] 0 [] false)] : List TToken)) fun q56 =>
  some q56) (
  some q23)) fun (z14 : List TToken) =>
  r04_Tokens_L1 m v_ rec_r04_Tokens kk z14 (w64 (v11 + 1))) (
  some v9)
def r04_Tokens_r (m : Nat) : Nat → (List TValue) → Option (List TToken)
 | 0, _ => none
 | k + 1, v_ =>
  Option.bind (
  r04_Tokens_L1 m v_ (r04_Tokens_r m k) m ([] : List TToken) 0) fun (z5 : List TToken) =>
  some z5
def r04_Tokens (m : Nat) (v_ : List TValue) : Option (List TToken) := r04_Tokens_r m  m v_
def r04_Parse (m : Nat) (l_ : List TToken) : Option ((List TValue) × Int) :=
 cond (decide (1500 < (ln l_))) (
 some (([] : List TValue), 4)) (
 Option.bind (r04_Parsed m l_) fun y10 =>
 cond (!y10.2) (
 some (([] : List TValue), 20)) (
 Option.bind (r04_Tokens m y10.1) fun y24 =>
 cond (decide (1500 < (ln y24))) (
 some (([] : List TValue), 4)) (
 some (y10.1, 0))))
def r04_Of (m : Nat) (s : Str) : Option (List TValue) :=
 Option.bind (r02_Tokens m s) fun y5 =>
 Option.bind (r04_Parse m y5.1) fun y14 =>
 some y14.1
def law31_of (m : Nat) (origin : Int) (name_ : Str) (s : Str) : Option (TDeclared) :=
 Option.bind (r04_Of m s) fun y6 =>
 some (TDeclared.mk (TLong.mk name_ y6 []) false origin false 0 (TWeight.mk 0 0 0) 0)
def stringslite_HasPrefix (s : Str) (prefix_ : Str) : Option (Bool) :=
 chk ((decide ((ln prefix_) ≤ (ln s))) = true → 0 ≤ (ln prefix_) ∧ (ln prefix_) ≤ ln s) <|
 lt (cond (decide ((ln prefix_) ≤ (ln s))) ((sub s 0 (ln prefix_)) == prefix_) false) fun x4 =>
 some x4
def strings_HasPrefix (s : Str) (prefix_ : Str) : Option (Bool) :=
 Option.bind (stringslite_HasPrefix s prefix_) fun y3 =>
 some y3
def props_Custom (name_ : Str) : Option (Bool) :=
 Option.bind (strings_HasPrefix name_ [45, 45]) fun y3 =>
 lt (cond (cond y3 (decide (2 < (ln name_))) false) (decide ((ln name_) ≤ 64)) false) fun x4 =>
 some x4
structure TColor where
 Red : Int
 Green : Int
 Blue : Int
 Alpha : Int
instance : Inhabited TColor := ⟨⟨default, default, default, default⟩⟩
structure TVal where
 Kind : Int
 Word : Str
 Num : Int
 Color : TColor
instance : Inhabited TVal := ⟨⟨default, default, default, default⟩⟩
def props_word (s : Str) : TVal :=
 (TVal.mk 1 s 0 (TColor.mk 0 0 0 0))
structure TProp where
 Name : Str
 Inherited : Bool
 Initial : TVal
 Words : List Str
 Kinds : List Int
 Least : Bool
instance : Inhabited TProp := ⟨⟨default, default, default, default, default, default⟩⟩
def props_color (name_ : Str) (inherited : Bool) (first : TVal) : TProp :=
 (TProp.mk name_ inherited first ([] : List Str) ([7, 8] : List Int) false)
structure Tstrings_span where
 start : Int
 end_ : Int
instance : Inhabited Tstrings_span := ⟨⟨default, default⟩⟩
def strings_Fields_L1 (m : Nat) (s : Str) : Nat → Int → Int → Int → Int → Option (Int × Int)
 | 0, _, _, _, _ => none
 | kk + 1, v12, v13, v14, v15 =>
  cond (decide (v15 < (ln s))) (
  chk (0 ≤ v15 ∧ v15 < ln s) <|
  chk (0 ≤ (bat s v15) ∧ (bat s v15) < (256 : Int)) <|
  lt (w64 (gi gl_strings_asciiSpace (bat s v15))) fun x24 =>
  lt (ibit .and .i64 v13 (ibit .xor .i64 (-1) x24)) fun x27 =>
  strings_Fields_L1 m s kk (w64 (v12 + x27)) x24 (ibit .or .u8 v14 (bat s v15)) (w64 (v15 + 1))) (
  some (v12, v14))
def strings_Fields_L2 (m : Nat) (s : Str) : Nat → Int → Option (Int)
 | 0, _ => none
 | kk + 1, v55 =>
  chk ((decide (v55 < (ln s))) = true → 0 ≤ v55 ∧ v55 < ln s) <|
  chk ((decide (v55 < (ln s))) = true → 0 ≤ (bat s v55) ∧ (bat s v55) < (256 : Int)) <|
  lt (cond (decide (v55 < (ln s))) ((gi gl_strings_asciiSpace (bat s v55)) != 0) false) fun x58 =>
  cond x58 (
  strings_Fields_L2 m s kk (w64 (v55 + 1))) (
  some v55)
def strings_Fields_L4 (m : Nat) (s : Str) : Nat → Int → Option (Int)
 | 0, _ => none
 | kk + 1, v95 =>
  chk ((decide (v95 < (ln s))) = true → 0 ≤ v95 ∧ v95 < ln s) <|
  chk ((decide (v95 < (ln s))) = true → 0 ≤ (bat s v95) ∧ (bat s v95) < (256 : Int)) <|
  lt (cond (decide (v95 < (ln s))) ((gi gl_strings_asciiSpace (bat s v95)) != 0) false) fun x98 =>
  cond x98 (
  strings_Fields_L4 m s kk (w64 (v95 + 1))) (
  some v95)
def strings_Fields_L3 (m : Nat) (s : Str) : Nat → (List Str) → Int → Int → Int → Option (Int × Int × (List Str))
 | 0, _, _, _, _ => none
 | kk + 1, v68, v70, v71, v72 =>
  cond (decide (v72 < (ln s))) (
  chk (0 ≤ v72 ∧ v72 < ln s) <|
  chk (0 ≤ (bat s v72) ∧ (bat s v72) < (256 : Int)) <|
  lt ((gi gl_strings_asciiSpace (bat s v72)) == 0) fun x77 =>
  cond x77 (
  strings_Fields_L3 m s kk v68 v70 v71 (w64 (v72 + 1))) (
  chk (0 ≤ v71 ∧ v71 ≤ v72 ∧ v72 ≤ ln s) <|
  chk (0 ≤ v70 ∧ v70 < ln v68) <|
  lt (setl v68 v70 (sub s v71 v72)) fun q89 =>
  Option.bind (
  strings_Fields_L4 m s m (w64 (v72 + 1))) fun (z94 : Int) =>
  strings_Fields_L3 m s kk q89 (w64 (v70 + 1)) z94 z94)) (
  some (v70, v71, v68))
def strings_Fields (m : Nat) (s : Str) : Option (List Str) :=
 Option.bind (
 strings_Fields_L1 m s m 0 1 0 0) fun (z9 : Int × Int) =>
 cond (decide (128 ≤ z9.2)) (
 none) (
 chk (0 ≤ z9.1 ∧ z9.1 ≤ z9.1 ∧ z9.1 ≤ 1099511627776) <|
 lt (List.replicate (z9.1).toNat ([] : Str)) fun q41 =>
 Option.bind (
 strings_Fields_L2 m s m 0) fun (z54 : Int) =>
 Option.bind (
 strings_Fields_L3 m s m q41 0 z54 z54) fun (z67 : Int × Int × (List Str)) =>
 Option.bind (
 cond (decide (z67.2.1 < (ln s))) (
 chk (0 ≤ z67.2.1 ∧ z67.2.1 ≤ ln s) <|
 chk (0 ≤ z67.1 ∧ z67.1 < ln z67.2.2) <|
 lt (setl z67.2.2 z67.1 (sub s z67.2.1 (ln s))) fun q122 =>
 some q122) (
 some z67.2.2)) fun (z112 : List Str) =>
 some z112)
def props_words (m : Nat) (name_ : Str) (inherited : Bool) (first : Str) (all_ : Str) : Option (TProp) :=
 lt (props_word first) fun y4 =>
 Option.bind (strings_Fields m all_) fun y7 =>
 some (TProp.mk name_ inherited y4 y7 ([] : List Int) false)
def props_length (m : Nat) (name_ : Str) (inherited : Bool) (first : TVal) (all_ : Str) (least : Bool) (more : List Int) : Option (TProp) :=
 Option.bind (strings_Fields m all_) fun y8 =>
 chk (ln ([2, 3, 4] : List Int) + ln more ≤ 1099511627776) <|
 lt (([2, 3, 4] : List Int) ++ more) fun q14 =>
 some (TProp.mk name_ inherited first y8 q14 least)
def props_Table_L1 (m : Nat)  : Nat → (List TProp) → Int → Option (List TProp)
 | 0, _, _ => none
 | kk + 1, v88, v90 =>
  cond (decide (v90 < 4)) (
  chk (0 ≤ v90 ∧ v90 < ln ([[116, 111, 112], [114, 105, 103, 104, 116], [98, 111, 116, 116, 111, 109], [108, 101, 102, 116]] : List Str)) <|
  lt ((gi ([[116, 111, 112], [114, 105, 103, 104, 116], [98, 111, 116, 116, 111, 109], [108, 101, 102, 116]] : List Str) v90)) fun x94 =>
  chk (ln [109, 97, 114, 103, 105, 110, 45] + ln x94 ≤ 9223372036854775807) <|
  Option.bind (props_length m ([109, 97, 114, 103, 105, 110, 45] ++ x94) false (TVal.mk 2 [] 0 (TColor.mk 0 0 0 0)) [97, 117, 116, 111] false []) fun y101 =>
  chk (ln v88 + ln ([y101] : List TProp) ≤ 1099511627776) <|
  lt (v88 ++ ([y101] : List TProp)) fun q113 =>
  props_Table_L1 m  kk q113 (w64 (v90 + 1))) (
  some v88)
def props_Table (m : Nat)  : Option (List TProp) :=
 lt (props_word [97, 117, 116, 111]) fun y3 =>
 lt (props_color [99, 111, 108, 111, 114] true (TVal.mk 7 [] 0 (TColor.mk 0 0 0 255))) fun y17 =>
 lt (props_color [98, 97, 99, 107, 103, 114, 111, 117, 110, 100, 45, 99, 111, 108, 111, 114] false (TVal.mk 7 [] 0 (TColor.mk 0 0 0 0))) fun y22 =>
 lt (props_color [98, 111, 114, 100, 101, 114, 45, 99, 111, 108, 111, 114] false (TVal.mk 8 [] 0 (TColor.mk 0 0 0 0))) fun y27 =>
 lt (props_color [111, 117, 116, 108, 105, 110, 101, 45, 99, 111, 108, 111, 114] false (TVal.mk 8 [] 0 (TColor.mk 0 0 0 0))) fun y32 =>
 Option.bind (props_words m [100, 105, 115, 112, 108, 97, 121] false [105, 110, 108, 105, 110, 101] [98, 108, 111, 99, 107, 32, 102, 108, 101, 120, 32, 105, 110, 108, 105, 110, 101, 32, 105, 110, 108, 105, 110, 101, 45, 98, 108, 111, 99, 107, 32, 110, 111, 110, 101]) fun y37 =>
 Option.bind (props_words m [118, 105, 115, 105, 98, 105, 108, 105, 116, 121] true [118, 105, 115, 105, 98, 108, 101] [99, 111, 108, 108, 97, 112, 115, 101, 32, 104, 105, 100, 100, 101, 110, 32, 118, 105, 115, 105, 98, 108, 101]) fun y42 =>
 Option.bind (props_length m [119, 105, 100, 116, 104] false y3 [97, 117, 116, 111] true []) fun y48 =>
 Option.bind (props_length m [104, 101, 105, 103, 104, 116] false y3 [97, 117, 116, 111] true []) fun y54 =>
 Option.bind (
 props_Table_L1 m  m ([y17, y22, y27, y32, y37, y42, y48, y54] : List TProp) 0) fun (z81 : List TProp) =>
 Option.bind (props_length m [102, 111, 110, 116, 45, 115, 105, 122, 101] true (TVal.mk 2 [] 16000 (TColor.mk 0 0 0 0)) [] true []) fun y126 =>
 lt (props_word [110, 111, 114, 109, 97, 108]) fun y131 =>
 Option.bind (props_length m [108, 105, 110, 101, 45, 104, 101, 105, 103, 104, 116] true y131 [110, 111, 114, 109, 97, 108] true ([5] : List Int)) fun y134 =>
 Option.bind (props_words m [116, 101, 120, 116, 45, 97, 108, 105, 103, 110] true [108, 101, 102, 116] [99, 101, 110, 116, 101, 114, 32, 106, 117, 115, 116, 105, 102, 121, 32, 108, 101, 102, 116, 32, 114, 105, 103, 104, 116]) fun y139 =>
 chk (ln z81 + ln ([y126, y134, y139, (TProp.mk [111, 112, 97, 99, 105, 116, 121] false (TVal.mk 5 [] 1000 (TColor.mk 0 0 0 0)) [] ([5] : List Int) false), (TProp.mk [122, 45, 105, 110, 100, 101, 120] false y3 ([[97, 117, 116, 111]] : List Str) ([6] : List Int) false), (TProp.mk [111, 114, 100, 101, 114] false (TVal.mk 6 [] 0 (TColor.mk 0 0 0 0)) [] ([6] : List Int) false)] : List TProp) ≤ 1099511627776) <|
 lt (z81 ++ ([y126, y134, y139, (TProp.mk [111, 112, 97, 99, 105, 116, 121] false (TVal.mk 5 [] 1000 (TColor.mk 0 0 0 0)) [] ([5] : List Int) false), (TProp.mk [122, 45, 105, 110, 100, 101, 120] false y3 ([[97, 117, 116, 111]] : List Str) ([6] : List Int) false), (TProp.mk [111, 114, 100, 101, 114] false (TVal.mk 6 [] 0 (TColor.mk 0 0 0 0)) [] ([6] : List Int) false)] : List TProp)) fun q155 =>
 some q155
def props_Find_1 (p : TProp) (u0 : Str) : Bool :=
 p.Name == u0
def slices_IndexFunc_api_Prop_api_Prop_L1 (m : Nat) (s : List TProp) (f_c0 : Str) : Nat → Int → Option (Sum (Int) (Unit))
 | 0, _ => none
 | kk + 1, v6 =>
  cond (decide (v6 < (ln s))) (
  chk (0 ≤ v6 ∧ v6 < ln s) <|
  cond (props_Find_1 (gi s v6) f_c0) (
  some (.inl v6)) (
  slices_IndexFunc_api_Prop_api_Prop_L1 m s f_c0 kk (w64 (v6 + 1)))) (
  some (.inr ()))
def slices_IndexFunc_api_Prop_api_Prop (m : Nat) (s : List TProp) (f_c0 : Str) : Option (Int) :=
 Option.bind (
 slices_IndexFunc_api_Prop_api_Prop_L1 m s f_c0 m 0) fun (z3 : Sum (Int) (Unit)) => sumK z3 fun s_z3 =>
 some (-1)
def props_Find (m : Nat) (name_ : Str) : Option (Int × Int) :=
 Option.bind (props_Table m) fun y6 =>
 Option.bind (slices_IndexFunc_api_Prop_api_Prop m y6 name_) fun y11 =>
 cond (decide (y11 < 0)) (
 some (0, 6)) (
 some (y11, 0))
def props_Inherited (m : Nat) (name_ : Str) : Option (Bool × Int) :=
 Option.bind (props_Custom name_) fun y3 =>
 cond y3 (
 some (true, 0)) (
 Option.bind (props_Find m name_) fun y8 =>
 cond (y8.2 != 0) (
 some (false, y8.2)) (
 Option.bind (props_Table m) fun y15 =>
 chk (0 ≤ y8.1 ∧ y8.1 < ln y15) <|
 some ((gi y15 y8.1).Inherited, 0)))
def nest_closer (kind : Int) : Int :=
 cond (kind == 2) (
 22) (
 lt (
 cond (kind == 19) (
 kind == 19) (
 cond (kind == 21) (
 kind == 21) (
 kind == 23))) fun (z9 : Bool) =>
 cond z9 (
 wu8 (kind + 1)) (
 0))
structure Tnest_found where
 depth : Int
 tokens : Int
 bad : Bool
instance : Inhabited Tnest_found := ⟨⟨default, default, default⟩⟩
def nest_look_L1 (m : Nat) (v_ : List TValue) (closes : Int) (rec_nest_look : (List TValue) → Int → Option (Tnest_found)) : Nat → Int → Int → Int → Bool → Option (Int × Int × Bool)
 | 0, _, _, _, _ => none
 | kk + 1, v10, v11, v12, v13 =>
  cond (decide (v10 < (ln v_))) (
  Option.bind (
  chk (0 ≤ v10 ∧ v10 < ln v_) <|
  Option.bind (
  lt (cond (closes != 0) (((gi v_ v10).Token.Kind) == closes) false) fun x32 =>
  lt (cond x32 true (cond ((nest_closer ((gi v_ v10).Token.Kind)) == 0) (decide (0 < (ln ((gi v_ v10).List_)))) false)) fun x33 =>
  cond x33 (
  some true) (
  some v13)) fun (z31 : Bool) =>
  lt ((nest_closer ((gi v_ v10).Token.Kind)) == 0) fun x41 =>
  cond x41 (
  some (w64 (v12 + 1), z31, v11)) (
  Option.bind (rec_nest_look ((gi v_ v10).List_) (nest_closer ((gi v_ v10).Token.Kind))) fun y44 =>
  lt (if v11 < w64 (y44.depth + 1) then w64 (y44.depth + 1) else v11) fun x52 =>
  lt (w64 ((w64 ((w64 (v12 + 1)) + y44.tokens)) + 1)) fun x53 =>
  some (x53, cond z31 true y44.bad, x52))) fun (z16 : Int × Bool × Int) =>
  nest_look_L1 m v_ closes rec_nest_look kk (w64 (v10 + 1)) z16.2.2 z16.1 z16.2.1) (
  some (v11, v12, v13))
def nest_look_r (m : Nat) : Nat → (List TValue) → Int → Option (Tnest_found)
 | 0, _, _ => none
 | k + 1, v_, closes =>
  Option.bind (
  nest_look_L1 m v_ closes (nest_look_r m k) m 0 0 0 false) fun (z7 : Int × Int × Bool) =>
  some (Tnest_found.mk z7.1 z7.2.1 z7.2.2)
def nest_look (m : Nat) (v_ : List TValue) (closes : Int) : Option (Tnest_found) := nest_look_r m  m v_ closes
def nest_Check (m : Nat) (v_ : List TValue) : Option (Int) :=
 Option.bind (nest_look m v_ 0) fun y3 =>
 cond (decide (16 < y3.depth)) (
 some 20) (
 cond (decide (1500 < y3.tokens)) (
 some 4) (
 cond y3.bad (
 some 8) (
 some 0)))
def short_Names  : List Str :=
 ([[109, 97, 114, 103, 105, 110], [98, 111, 114, 100, 101, 114], [111, 117, 116, 108, 105, 110, 101], [98, 97, 99, 107, 103, 114, 111, 117, 110, 100]] : List Str)
def slices_Index_string_string_L1 (m : Nat) (s : List Str) (v_ : Str) : Nat → Int → Option (Sum (Int) (Unit))
 | 0, _ => none
 | kk + 1, v6 =>
  cond (decide (v6 < (ln s))) (
  chk (0 ≤ v6 ∧ v6 < ln s) <|
  cond (v_ == (gi s v6)) (
  some (.inl v6)) (
  slices_Index_string_string_L1 m s v_ kk (w64 (v6 + 1)))) (
  some (.inr ()))
def slices_Index_string_string (m : Nat) (s : List Str) (v_ : Str) : Option (Int) :=
 Option.bind (
 slices_Index_string_string_L1 m s v_ m 0) fun (z3 : Sum (Int) (Unit)) => sumK z3 fun s_z3 =>
 some (-1)
def slices_Contains_string_string (m : Nat) (s : List Str) (v_ : Str) : Option (Bool) :=
 Option.bind (slices_Index_string_string m s v_) fun y3 =>
 some (decide (0 ≤ y3))
def short_of_L1 (m : Nat) (name_ : Str) : Nat → (List Str) → Int → Option (List Str)
 | 0, _, _ => none
 | kk + 1, v36, v38 =>
  cond (decide (v38 < 4)) (
  chk (0 ≤ v38 ∧ v38 < ln ([[116, 111, 112], [114, 105, 103, 104, 116], [98, 111, 116, 116, 111, 109], [108, 101, 102, 116]] : List Str)) <|
  lt ((gi ([[116, 111, 112], [114, 105, 103, 104, 116], [98, 111, 116, 116, 111, 109], [108, 101, 102, 116]] : List Str) v38)) fun x42 =>
  chk (ln name_ + ln [45] ≤ 9223372036854775807) <|
  chk (ln (name_ ++ [45]) + ln x42 ≤ 9223372036854775807) <|
  chk (ln v36 + ln ([(name_ ++ [45]) ++ x42] : List Str) ≤ 1099511627776) <|
  lt (v36 ++ ([(name_ ++ [45]) ++ x42] : List Str)) fun q54 =>
  short_of_L1 m name_ kk q54 (w64 (v38 + 1))) (
  some v36)
def short_of (m : Nat) (name_ : Str) : Option (List Str) :=
 lt (short_Names) fun y3 =>
 Option.bind (slices_Contains_string_string 64 y3 name_) fun y8 =>
 cond (!y8) (
 some ([] : List Str)) (
 lt (!(name_ == [109, 97, 114, 103, 105, 110])) fun x14 =>
 cond x14 (
 chk (ln name_ + ln [45, 99, 111, 108, 111, 114] ≤ 9223372036854775807) <|
 some ([name_ ++ [45, 99, 111, 108, 111, 114]] : List Str)) (
 Option.bind (
 short_of_L1 m name_ m ([] : List Str) 0) fun (z28 : List Str) =>
 some z28))
def short_Longs (m : Nat) (name_ : Str) : Option ((List Str) × Int) :=
 Option.bind (short_of m name_) fun y5 =>
 cond (decide (0 < (ln y5))) (
 some (y5, 0)) (
 Option.bind (props_Inherited 64 name_) fun y16 =>
 cond (y16.2 != 0) (
 some (([] : List Str), y16.2)) (
 some (([name_] : List Str), 0)))
def sorter_Check_L1 (m : Nat) (d_ : TDeclared) : Nat → Int → Option (Sum (Int) (Unit))
 | 0, _ => none
 | kk + 1, v39 =>
  cond (decide (v39 < 5)) (
  chk (0 ≤ v39 ∧ v39 < (5 : Int)) <|
  lt (gi [d_.Layer, d_.Order, d_.Weight.e0, d_.Weight.e1, d_.Weight.e2] v39) fun x43 =>
  lt (cond (decide (x43 < 0)) true (decide (1000000 < x43))) fun x46 =>
  cond x46 (
  some (.inl 8)) (
  sorter_Check_L1 m d_ kk (w64 (v39 + 1)))) (
  some (.inr ()))
def sorter_Check (m : Nat) (d_ : TDeclared) : Option (Int) :=
 Option.bind (props_Inherited 64 d_.Long.Name) fun y6 =>
 Option.bind (cond (y6.2 != 0) (some default) (nest_Check m d_.Long.Value)) fun y9 =>
 cond (cond (y6.2 != 0) true (y9 != 0)) (
 some 8) (
 Option.bind (
 cond (!(d_.Long.Whole == [])) (
 Option.bind (short_Longs 64 d_.Long.Whole) fun y21 =>
 Option.bind (cond (y21.2 != 0) (some default) (slices_Contains_string_string 64 y21.1 d_.Long.Name)) fun y28 =>
 lt (cond (cond (y21.2 != 0) true (!y28)) true (d_.Long.Whole == d_.Long.Name)) fun x29 =>
 cond x29 (
 some (.inl 8)) (
 some (.inr ()))) (
 some (.inr ()))) fun (z14 : Sum (Int) (Unit)) => sumK z14 fun s_z14 =>
 Option.bind (
 sorter_Check_L1 m d_ m 0) fun (z36 : Sum (Int) (Unit)) => sumK z36 fun s_z36 =>
 lt (cond (decide (d_.Origin < 1)) true (decide (3 < d_.Origin))) fun x56 =>
 cond x56 (
 some 8) (
 lt (cond d_.Attached (cond (cond (d_.Origin != 3) true (d_.Layer != 0)) true (!((d_.Weight.e0 == 0) && ((d_.Weight.e1 == 0) && ((d_.Weight.e2 == 0) && true))))) false) fun x61 =>
 cond x61 (
 some 8) (
 some 0)))
def sorter_check_L1 (m : Nat) (l_ : List TDeclared) : Nat → Int → Option (Sum (Int) (Unit))
 | 0, _ => none
 | kk + 1, v6 =>
  cond (decide (v6 < (ln l_))) (
  chk (0 ≤ v6 ∧ v6 < ln l_) <|
  Option.bind (sorter_Check m (gi l_ v6)) fun y17 =>
  cond (y17 != 0) (
  some (.inl y17)) (
  sorter_check_L1 m l_ kk (w64 (v6 + 1)))) (
  some (.inr ()))
def sorter_check (m : Nat) (l_ : List TDeclared) : Option (Int) :=
 Option.bind (
 sorter_check_L1 m l_ m 0) fun (z3 : Sum (Int) (Unit)) => sumK z3 fun s_z3 =>
 some 0
def sorter_rank (d_ : TDeclared) : List Int :=
 lt (
 cond d_.Important (
 (w64 (7 - (w64 d_.Origin)), w64 (1000000 - d_.Layer))) (
 (w64 d_.Origin, d_.Layer))) fun (z8 : Int × Int) =>
 lt (
 cond d_.Attached (
 1) (
 0)) fun (z14 : Int) =>
 ([z8.1, z14, z8.2, d_.Weight.e0, d_.Weight.e1, d_.Weight.e2, d_.Order] : List Int)
def cmp_isNaN_int (x_ : Int) : Bool :=
 x_ != x_
def cmp_Compare_int (x_ : Int) (y_ : Int) : Int :=
 cond (cmp_isNaN_int x_) (
 cond (cmp_isNaN_int y_) (
 0) (
 (-1))) (
 cond (cmp_isNaN_int y_) (
 1) (
 cond (decide (x_ < y_)) (
 (-1)) (
 cond (decide (y_ < x_)) (
 1) (
 0))))
def slices_Compare_int_int_L1 (m : Nat) (s1 : List Int) (s2 : List Int) : Nat → Int → Option (Sum (Int) (Unit))
 | 0, _ => none
 | kk + 1, v6 =>
  cond (decide (v6 < (ln s1))) (
  chk (0 ≤ v6 ∧ v6 < ln s1) <|
  cond (decide ((ln s2) ≤ v6)) (
  some (.inl 1)) (
  chk (0 ≤ v6 ∧ v6 < ln s2) <|
  lt ((cmp_Compare_int (gi s1 v6) (gi s2 v6)) != 0) fun x21 =>
  cond x21 (
  some (.inl (cmp_Compare_int (gi s1 v6) (gi s2 v6)))) (
  slices_Compare_int_int_L1 m s1 s2 kk (w64 (v6 + 1))))) (
  some (.inr ()))
def slices_Compare_int_int (m : Nat) (s1 : List Int) (s2 : List Int) : Option (Int) :=
 Option.bind (
 slices_Compare_int_int_L1 m s1 s2 m 0) fun (z3 : Sum (Int) (Unit)) => sumK z3 fun s_z3 =>
 cond (decide ((ln s1) < (ln s2))) (
 some (-1)) (
 some 0)
def sorter_compare (m : Nat) (a_ : TDeclared) (b_ : TDeclared) : Option (Int) :=
 lt (sorter_rank a_) fun y10 =>
 lt (sorter_rank b_) fun y13 =>
 Option.bind (slices_Compare_int_int 64 y10 y13) fun y16 =>
 some y16
def sorter_Before (m : Nat) (a_ : TDeclared) (b_ : TDeclared) : Option (Bool × Int) :=
 Option.bind (sorter_check m ([a_, b_] : List TDeclared)) fun y15 =>
 cond (y15 != 0) (
 some (false, y15)) (
 Option.bind (sorter_compare m a_ b_) fun y22 =>
 some (decide (y22 < 0), 0))
def wide_asked_L1 (m : Nat) (l_ : List TDeclared) : Nat → Int → Option (Sum (Int) (Unit))
 | 0, _ => none
 | kk + 1, v6 =>
  cond (decide (v6 < (ln l_))) (
  chk (0 ≤ v6 ∧ v6 < ln l_) <|
  Option.bind (sorter_Check m (gi l_ v6)) fun y17 =>
  cond (y17 != 0) (
  some (.inl y17)) (
  wide_asked_L1 m l_ kk (w64 (v6 + 1)))) (
  some (.inr ()))
def wide_asked_L2 (m : Nat) (l_ : List TDeclared) : Nat → Int → Option (Sum (Int) (Unit))
 | 0, _ => none
 | kk + 1, v32 =>
  cond (decide (v32 < (ln l_))) (
  chk (0 ≤ v32 ∧ v32 < ln l_) <|
  chk (0 ≤ (w64 (v32 - 1)) ∧ (w64 (v32 - 1)) < ln l_) <|
  Option.bind (sorter_Before m (gi l_ v32) (gi l_ (w64 (v32 - 1)))) fun y37 =>
  cond y37.1 (
  some (.inl 2)) (
  wide_asked_L2 m l_ kk (w64 (v32 + 1)))) (
  some (.inr ()))
def wide_asked (m : Nat) (l_ : List TDeclared) : Option (Int) :=
 Option.bind (
 wide_asked_L1 m l_ m 0) fun (z3 : Sum (Int) (Unit)) => sumK z3 fun s_z3 =>
 Option.bind (
 wide_asked_L2 m l_ m 1) fun (z29 : Sum (Int) (Unit)) => sumK z29 fun s_z29 =>
 some 0
def slices_Backward_api_Declared_api_Declared (s : List TDeclared) : List TDeclared :=
 s
def short_small_L1 (m : Nat) (s : Str) : Nat → Int → (List Int) → Option (List Int)
 | 0, _, _ => none
 | kk + 1, v14, v15 =>
  cond (decide (v14 < (ln (ofB s)))) (
  Option.bind (
  chk (0 ≤ v14 ∧ v14 < ln (ofB s)) <|
  lt (cond (decide (65 ≤ (gi v15 v14))) (decide ((gi v15 v14) ≤ 90)) false) fun x22 =>
  cond x22 (
  lt (seti v15 v14 (wu8 ((wu8 ((gi v15 v14) + 97)) - 65))) fun q29 =>
  some q29) (
  some v15)) fun (z18 : List Int) =>
  short_small_L1 m s kk (w64 (v14 + 1)) z18) (
  some v15)
def short_small (m : Nat) (s : Str) : Option (Str) :=
 Option.bind (
 short_small_L1 m s m 0 (ofB s)) fun (z11 : List Int) =>
 some (toB z11)
def short_Wide (m : Nat) (l_ : List TValue) : Option (Str) :=
 Option.bind (
 chk (((ln l_) == 1) = true → 0 ≤ (0 : Int) ∧ (0 : Int) < ln l_) <|
 lt (cond ((ln l_) == 1) (((gi l_ (0 : Int)).Token.Kind) == 1) false) fun x5 =>
 cond x5 (
 chk (0 ≤ (0 : Int) ∧ (0 : Int) < ln l_) <|
 Option.bind (short_small m ((gi l_ (0 : Int)).Token.Text)) fun y9 =>
 Option.bind (slices_Contains_string_string 64 ([[105, 110, 105, 116, 105, 97, 108], [105, 110, 104, 101, 114, 105, 116], [117, 110, 115, 101, 116], [114, 101, 118, 101, 114, 116]] : List Str) y9) fun y16 =>
 cond y16 (
 some (.inl y9)) (
 some (.inr ()))) (
 some (.inr ()))) fun (z3 : Sum (Str) (Unit)) => sumK z3 fun s_z3 =>
 some []
def wide_unset (m : Nat) (name_ : Str) : Option (Str) :=
 Option.bind (props_Inherited 64 name_) fun y3 =>
 cond y3.1 (
 some [105, 110, 104, 101, 114, 105, 116]) (
 some [105, 110, 105, 116, 105, 97, 108])
def wide_mean_2 (m : Nat) (rec_wide_decide : (List TDeclared) → Int → Str → Option (Int × Str)) (l_ : List TDeclared) (at_ : Int) (word : Str) : Option (Int × Str) :=
 chk (0 ≤ at_ ∧ at_ < ln l_) <|
 cond (word == [114, 101, 118, 101, 114, 116]) (
 Option.bind (rec_wide_decide l_ ((gi l_ at_).Origin) ((gi l_ at_).Long.Name)) fun y10 =>
 some (y10.1, y10.2)) (
 cond (word == [117, 110, 115, 101, 116]) (
 Option.bind (wide_unset m ((gi l_ at_).Long.Name)) fun y15 =>
 some ((-1), y15)) (
 some ((-1), word)))
def wide_decide_L1 (m : Nat) (l_ : List TDeclared) (below : Int) (name_ : Str) (y18 : List TDeclared) (rec_wide_decide : (List TDeclared) → Int → Str → Option (Int × Str)) : Nat → Int → Option (Int × Str)
 | 0, _ => none
 | kk + 1, v24 =>
  cond (decide (v24 < 0)) (
  Option.bind (wide_unset m name_) fun y62 =>
  some ((-1), y62)) (
  lt (cond (!(((gi y18 v24).Long.Name) == name_)) true (decide (below ≤ ((gi y18 v24).Origin)))) fun x33 =>
  cond x33 (
  wide_decide_L1 m l_ below name_ y18 rec_wide_decide kk (v24 - 1)) (
  Option.bind (
  cond (((gi y18 v24).Long.Whole) == []) (
  Option.bind (short_Wide m ((gi y18 v24).Long.Value)) fun y39 =>
  cond (!(y39 == [])) (
  Option.bind (wide_mean_2 m rec_wide_decide l_ v24 y39) fun y44 =>
  some (.inl (y44.1, y44.2))) (
  some (.inr ()))) (
  some (.inr ()))) fun (z36 : Sum (Int × Str) (Unit)) => sumK z36 fun s_z36 =>
  some (v24, [])))
def wide_decide_r (m : Nat) : Nat → (List TDeclared) → Int → Str → Option (Int × Str)
 | 0, _, _, _ => none
 | k + 1, l_, below, name_ =>
  lt (slices_Backward_api_Declared_api_Declared l_) fun y18 =>
  chk (ln y18 ≤ 1099511627776) <|
  wide_decide_L1 m l_ below name_ y18 (wide_decide_r m k) m (((y18).length : Int) - 1)
def wide_decide (m : Nat) (l_ : List TDeclared) (below : Int) (name_ : Str) : Option (Int × Str) := wide_decide_r m  m l_ below name_
def wide_Decide (m : Nat) (l_ : List TDeclared) (name_ : Str) : Option (Int × Str × Int) :=
 Option.bind (wide_asked m l_) fun y3 =>
 cond (y3 != 0) (
 some (0, [], y3)) (
 Option.bind (props_Inherited 64 name_) fun y10 =>
 cond (y10.2 != 0) (
 some (0, [], 6)) (
 Option.bind (wide_decide m l_ 4 name_) fun y17 =>
 some (y17.1, y17.2, 0)))
def law31_says (m : Nat) (l_ : List TDeclared) (name_ : Str) (at_ : Int) (word : Str) : Option (Bool) :=
 Option.bind (wide_Decide m l_ name_) fun y3 =>
 lt (cond (cond (y3.2.2 == 0) (y3.1 == at_) false) (y3.2.1 == word) false) fun x6 =>
 some x6
def law31_alive (m : Nat)  : Option (Bool) :=
 Option.bind (law31_of m 1 [99, 111, 108, 111, 114] [114, 101, 100]) fun y3 =>
 Option.bind (law31_of m 2 [99, 111, 108, 111, 114] [114, 101, 118, 101, 114, 116]) fun y8 =>
 Option.bind (law31_of m 3 [99, 111, 108, 111, 114] [114, 101, 118, 101, 114, 116]) fun y13 =>
 Option.bind (law31_of m 1 [99, 111, 108, 111, 114] [117, 110, 115, 101, 116]) fun y24 =>
 Option.bind (law31_of m 2 [99, 111, 108, 111, 114] [114, 101, 118, 101, 114, 116]) fun y29 =>
 Option.bind (law31_of m 3 [99, 111, 108, 111, 114] [114, 101, 118, 101, 114, 116]) fun y34 =>
 Option.bind (law31_says m ([y3, y8, y13] : List TDeclared) [99, 111, 108, 111, 114] 0 []) fun y45 =>
 Option.bind (cond y45 (law31_says m ([y24, y29, y34] : List TDeclared) [99, 111, 108, 111, 114] (-1) [105, 110, 104, 101, 114, 105, 116]) (some default)) fun y46 =>
 Option.bind (cond (cond y45 y46 false) (law31_says m ([y3, y8, y13] : List TDeclared) [119, 105, 100, 116, 104] (-1) [105, 110, 105, 116, 105, 97, 108]) (some default)) fun y47 =>
 some (cond (cond y45 y46 false) y47 false)
def r04_Size_L1 (m : Nat) (v_ : List TValue) (most : Int) (rec_r04_Size : (List TValue) → Int → Option (Int)) : Nat → Int → Int → Option (Int)
 | 0, _, _ => none
 | kk + 1, v8, v9 =>
  lt (cond (decide (v9 < (ln v_))) (decide (v8 ≤ most)) false) fun x10 =>
  cond x10 (
  chk (0 ≤ v9 ∧ v9 < ln v_) <|
  lt (w64 ((w64 (1 + (ln ((gi v_ v9).Token.Text)))) + (ln ((gi v_ v9).Token.Unit)))) fun x14 =>
  Option.bind (rec_r04_Size ((gi v_ v9).List_) (w64 (most - v8))) fun y15 =>
  r04_Size_L1 m v_ most rec_r04_Size kk (w64 (v8 + (w64 (x14 + y15)))) (w64 (v9 + 1))) (
  some v8)
def r04_Size_r (m : Nat) : Nat → (List TValue) → Int → Option (Int)
 | 0, _, _ => none
 | k + 1, v_, most =>
  Option.bind (
  r04_Size_L1 m v_ most (r04_Size_r m k) m 0 0) fun (z5 : Int) =>
  some z5
def r04_Size (m : Nat) (v_ : List TValue) (most : Int) : Option (Int) := r04_Size_r m  m v_ most
def r04_Deep_L1 (m : Nat) (v_ : List TValue) (rec_r04_Deep : (List TValue) → Option (Int)) : Nat → Int → Int → Option (Int)
 | 0, _, _ => none
 | kk + 1, v8, v9 =>
  cond (decide (v9 < (ln v_))) (
  Option.bind (
  chk (0 ≤ v9 ∧ v9 < ln v_) <|
  lt ((r04_Closer ((gi v_ v9).Token.Kind)) != 0) fun x14 =>
  cond x14 (
  Option.bind (rec_r04_Deep ((gi v_ v9).List_)) fun y17 =>
  lt (if v8 < w64 (1 + y17) then w64 (1 + y17) else v8) fun x18 =>
  some x18) (
  some v8)) fun (z12 : Int) =>
  r04_Deep_L1 m v_ rec_r04_Deep kk z12 (w64 (v9 + 1))) (
  some v8)
def r04_Deep_r (m : Nat) : Nat → (List TValue) → Option (Int)
 | 0, _ => none
 | k + 1, v_ =>
  Option.bind (
  r04_Deep_L1 m v_ (r04_Deep_r m k) m 0 0) fun (z5 : Int) =>
  some z5
def r04_Deep (m : Nat) (v_ : List TValue) : Option (Int) := r04_Deep_r m  m v_
def r04_Great (m : Nat) (v_ : List TValue) : Option (Bool) :=
 Option.bind (r04_Size m v_ 300) fun y3 =>
 Option.bind (cond (decide (300 < y3)) (some default) (r04_Deep m v_)) fun y4 =>
 lt (cond (decide (300 < y3)) true (decide (40 < y4))) fun x5 =>
 some x5
def r29_Great_L1 (m : Nat) (l_ : List TDeclared) : Nat → Int → Int → Option (Sum (Bool) (Int))
 | 0, _, _ => none
 | kk + 1, v8, v9 =>
  lt (cond (decide (v9 < (ln l_))) (decide (v9 ≤ 40)) false) fun x10 =>
  cond x10 (
  chk (0 ≤ v9 ∧ v9 < ln l_) <|
  Option.bind (r04_Great m ((gi l_ v9).Long.Value)) fun y14 =>
  lt (cond y14 true (decide (100 < (ln ((gi l_ v9).Long.Name))))) fun x15 =>
  lt (cond x15 true (decide (100 < (ln ((gi l_ v9).Long.Whole))))) fun x16 =>
  cond x16 (
  some (.inl true)) (
  Option.bind (r04_Size m ((gi l_ v9).Long.Value) 300) fun y21 =>
  r29_Great_L1 m l_ kk (w64 (v8 + y21)) (w64 (v9 + 1)))) (
  some (.inr v8))
def r29_Great (m : Nat) (l_ : List TDeclared) : Option (Bool) :=
 Option.bind (
 r29_Great_L1 m l_ m 0 0) fun (z5 : Sum (Bool) (Int)) => sumK z5 fun s_z5 =>
 lt (cond (decide (40 < (ln l_))) true (decide (1500 < s_z5))) fun x29 =>
 some x29
def r25_Custom (s : Str) : Option (Bool) :=
 lt (cond (decide (2 < (ln s))) (decide ((ln s) ≤ 64)) false) fun x3 =>
 chk (x3 = true → 0 ≤ (2 : Int) ∧ (2 : Int) ≤ ln s) <|
 some (cond x3 ((sub s 0 2) == [45, 45]) false)
def r25_word (s : Str) : TVal :=
 (TVal.mk 1 s 0 (TColor.mk 0 0 0 0))
def r25_px (n_ : Int) : TVal :=
 (TVal.mk 2 [] n_ (TColor.mk 0 0 0 0))
def r25_Table  : Option (List TProp) :=
 lt (r25_word [105, 110, 108, 105, 110, 101]) fun y30 =>
 lt (r25_word [118, 105, 115, 105, 98, 108, 101]) fun y33 =>
 lt (r25_px 0) fun y40 =>
 lt (r25_px 0) fun y43 =>
 lt (r25_px 0) fun y46 =>
 lt (r25_px 0) fun y49 =>
 lt (r25_px 16000) fun y52 =>
 lt (r25_word [110, 111, 114, 109, 97, 108]) fun y53 =>
 chk (ln ([] : List Int) + ln ([2, 3, 4] : List Int) ≤ 1099511627776) <|
 lt (([] : List Int) ++ ([2, 3, 4] : List Int)) fun q59 =>
 chk (ln q59 + ln ([5] : List Int) ≤ 1099511627776) <|
 lt (q59 ++ ([5] : List Int)) fun q64 =>
 lt (r25_word [108, 101, 102, 116]) fun y66 =>
 some ([(TProp.mk [99, 111, 108, 111, 114] true (TVal.mk 7 [] 0 (TColor.mk 0 0 0 255)) [] ([7, 8] : List Int) false), (TProp.mk [98, 97, 99, 107, 103, 114, 111, 117, 110, 100, 45, 99, 111, 108, 111, 114] false (TVal.mk 7 [] 0 (TColor.mk 0 0 0 0)) [] ([7, 8] : List Int) false), (TProp.mk [98, 111, 114, 100, 101, 114, 45, 99, 111, 108, 111, 114] false (TVal.mk 8 [] 0 (TColor.mk 0 0 0 0)) [] ([7, 8] : List Int) false), (TProp.mk [111, 117, 116, 108, 105, 110, 101, 45, 99, 111, 108, 111, 114] false (TVal.mk 8 [] 0 (TColor.mk 0 0 0 0)) [] ([7, 8] : List Int) false), (TProp.mk [100, 105, 115, 112, 108, 97, 121] false y30 ([[98, 108, 111, 99, 107], [102, 108, 101, 120], [105, 110, 108, 105, 110, 101], [105, 110, 108, 105, 110, 101, 45, 98, 108, 111, 99, 107], [110, 111, 110, 101]] : List Str) [] false), (TProp.mk [118, 105, 115, 105, 98, 105, 108, 105, 116, 121] true y33 ([[99, 111, 108, 108, 97, 112, 115, 101], [104, 105, 100, 100, 101, 110], [118, 105, 115, 105, 98, 108, 101]] : List Str) [] false), (TProp.mk [119, 105, 100, 116, 104] false (TVal.mk 1 [97, 117, 116, 111] 0 (TColor.mk 0 0 0 0)) ([[97, 117, 116, 111]] : List Str) ([2, 3, 4] : List Int) true), (TProp.mk [104, 101, 105, 103, 104, 116] false (TVal.mk 1 [97, 117, 116, 111] 0 (TColor.mk 0 0 0 0)) ([[97, 117, 116, 111]] : List Str) ([2, 3, 4] : List Int) true), (TProp.mk [109, 97, 114, 103, 105, 110, 45, 116, 111, 112] false y40 ([[97, 117, 116, 111]] : List Str) ([2, 3, 4] : List Int) false), (TProp.mk [109, 97, 114, 103, 105, 110, 45, 114, 105, 103, 104, 116] false y43 ([[97, 117, 116, 111]] : List Str) ([2, 3, 4] : List Int) false), (TProp.mk [109, 97, 114, 103, 105, 110, 45, 98, 111, 116, 116, 111, 109] false y46 ([[97, 117, 116, 111]] : List Str) ([2, 3, 4] : List Int) false), (TProp.mk [109, 97, 114, 103, 105, 110, 45, 108, 101, 102, 116] false y49 ([[97, 117, 116, 111]] : List Str) ([2, 3, 4] : List Int) false), (TProp.mk [102, 111, 110, 116, 45, 115, 105, 122, 101] true y52 [] ([2, 3, 4] : List Int) true), (TProp.mk [108, 105, 110, 101, 45, 104, 101, 105, 103, 104, 116] true y53 ([[110, 111, 114, 109, 97, 108]] : List Str) q64 true), (TProp.mk [116, 101, 120, 116, 45, 97, 108, 105, 103, 110] true y66 ([[99, 101, 110, 116, 101, 114], [106, 117, 115, 116, 105, 102, 121], [108, 101, 102, 116], [114, 105, 103, 104, 116]] : List Str) [] false), (TProp.mk [111, 112, 97, 99, 105, 116, 121] false (TVal.mk 5 [] 1000 (TColor.mk 0 0 0 0)) [] ([5] : List Int) false), (TProp.mk [122, 45, 105, 110, 100, 101, 120] false (TVal.mk 1 [97, 117, 116, 111] 0 (TColor.mk 0 0 0 0)) ([[97, 117, 116, 111]] : List Str) ([6] : List Int) false), (TProp.mk [111, 114, 100, 101, 114] false (TVal.mk 6 [] 0 (TColor.mk 0 0 0 0)) [] ([6] : List Int) false)] : List TProp)
def r25_Find_L1 (m : Nat) (s : Str) (y3 : List TProp) : Nat → Int → Option (Sum (Int × Int) (Unit))
 | 0, _ => none
 | kk + 1, v13 =>
  cond (decide (v13 < (ln y3))) (
  chk (0 ≤ v13 ∧ v13 < ln y3) <|
  cond (((gi y3 v13).Name) == s) (
  some (.inl (v13, 0))) (
  r25_Find_L1 m s y3 kk (w64 (v13 + 1)))) (
  some (.inr ()))
def r25_Find (m : Nat) (s : Str) : Option (Int × Int) :=
 Option.bind (r25_Table) fun y3 =>
 Option.bind (
 r25_Find_L1 m s y3 m 0) fun (z10 : Sum (Int × Int) (Unit)) => sumK z10 fun s_z10 =>
 some (0, 6)
def r25_Inherited (m : Nat) (s : Str) : Option (Bool × Int) :=
 Option.bind (r25_Custom s) fun y3 =>
 cond y3 (
 some (true, 0)) (
 Option.bind (r25_Find m s) fun y8 =>
 cond (y8.2 != 0) (
 some (false, y8.2)) (
 Option.bind (r25_Table) fun y15 =>
 chk (0 ≤ y8.1 ∧ y8.1 < ln y15) <|
 some ((gi y15 y8.1).Inherited, 0)))
def r04_shaped_L1 (m : Nat) (v_ : List TValue) (closer : Int) (rec_r04_shaped : (List TValue) → Int → Option (Bool)) : Nat → Int → Option (Sum (Bool) (Unit))
 | 0, _ => none
 | kk + 1, v6 =>
  cond (decide (v6 < (ln v_))) (
  chk (0 ≤ v6 ∧ v6 < ln v_) <|
  lt ((r04_Closer ((gi v_ v6).Token.Kind)) == 0) fun x12 =>
  lt (cond x12 (decide (0 < (ln ((gi v_ v6).List_)))) false) fun x13 =>
  lt (cond x13 true (cond (closer != 0) (((gi v_ v6).Token.Kind) == closer) false)) fun x14 =>
  Option.bind (cond x14 (some default) (cond ((r04_Closer ((gi v_ v6).Token.Kind)) != 0) (rec_r04_shaped ((gi v_ v6).List_) (r04_Closer ((gi v_ v6).Token.Kind))) (some default))) fun y15 =>
  lt (cond x14 true (cond ((r04_Closer ((gi v_ v6).Token.Kind)) != 0) (!y15) false)) fun x16 =>
  cond x16 (
  some (.inl false)) (
  r04_shaped_L1 m v_ closer rec_r04_shaped kk (w64 (v6 + 1)))) (
  some (.inr ()))
def r04_shaped_r (m : Nat) : Nat → (List TValue) → Int → Option (Bool)
 | 0, _, _ => none
 | k + 1, v_, closer =>
  Option.bind (
  r04_shaped_L1 m v_ closer (r04_shaped_r m k) m 0) fun (z3 : Sum (Bool) (Unit)) => sumK z3 fun s_z3 =>
  some true
def r04_shaped (m : Nat) (v_ : List TValue) (closer : Int) : Option (Bool) := r04_shaped_r m  m v_ closer
def r04_Check (m : Nat) (v_ : List TValue) : Option (Int) :=
 Option.bind (r04_Deep m v_) fun y3 =>
 cond (decide (16 < y3)) (
 some 20) (
 Option.bind (r04_Tokens m v_) fun y10 =>
 cond (decide (1500 < (ln y10))) (
 some 4) (
 Option.bind (r04_shaped m v_ 0) fun y19 =>
 cond (!y19) (
 some 8) (
 some 0)))
def r27_longs (name_ : Str) : Option (List Str) :=
 cond (name_ == [109, 97, 114, 103, 105, 110]) (
 some ([[109, 97, 114, 103, 105, 110, 45, 116, 111, 112], [109, 97, 114, 103, 105, 110, 45, 114, 105, 103, 104, 116], [109, 97, 114, 103, 105, 110, 45, 98, 111, 116, 116, 111, 109], [109, 97, 114, 103, 105, 110, 45, 108, 101, 102, 116]] : List Str)) (
 Option.bind (
 cond (name_ == [98, 111, 114, 100, 101, 114]) (
 some (name_ == [98, 111, 114, 100, 101, 114])) (
 lt (name_ == [111, 117, 116, 108, 105, 110, 101]) fun x16 =>
 cond x16 (
 some x16) (
 lt (name_ == [98, 97, 99, 107, 103, 114, 111, 117, 110, 100]) fun x19 =>
 some x19))) fun (z13 : Bool) =>
 cond z13 (
 chk (ln name_ + ln [45, 99, 111, 108, 111, 114] ≤ 9223372036854775807) <|
 some ([name_ ++ [45, 99, 111, 108, 111, 114]] : List Str)) (
 some ([] : List Str)))
def r27_Longs (m : Nat) (name_ : Str) : Option ((List Str) × Int) :=
 Option.bind (r27_longs name_) fun y5 =>
 cond (decide (0 < (ln y5))) (
 some (y5, 0)) (
 Option.bind (r25_Inherited 64 name_) fun y16 =>
 cond (y16.2 != 0) (
 some (([] : List Str), 6)) (
 some (([name_] : List Str), 0)))
def r29_whole_L1 (m : Nat) (x_ : TLong) (y16 : (List Str) × Int) : Nat → Int → Option (Sum (Bool) (Unit))
 | 0, _ => none
 | kk + 1, v26 =>
  lt (cond (y16.2 == 0) (decide (v26 < (ln y16.1))) false) fun x27 =>
  cond x27 (
  chk (0 ≤ v26 ∧ v26 < ln y16.1) <|
  cond ((gi y16.1 v26) == x_.Name) (
  some (.inl true)) (
  r29_whole_L1 m x_ y16 kk (w64 (v26 + 1)))) (
  some (.inr ()))
def r29_whole (m : Nat) (x_ : TLong) : Option (Bool) :=
 cond (x_.Whole == []) (
 some true) (
 cond (x_.Whole == x_.Name) (
 some false) (
 Option.bind (r27_Longs 64 x_.Whole) fun y16 =>
 Option.bind (
 r29_whole_L1 m x_ y16 m 0) fun (z23 : Sum (Bool) (Unit)) => sumK z23 fun s_z23 =>
 some false))
def r29_in (n_ : Int) : Bool :=
 lt (cond (decide (0 ≤ n_)) (decide (n_ ≤ 1000000)) false) fun x3 =>
 x3
def r29_Check (m : Nat) (d_ : TDeclared) : Option (Int) :=
 Option.bind (r25_Inherited 64 d_.Long.Name) fun y6 =>
 Option.bind (cond (y6.2 != 0) (some default) (r04_Check m d_.Long.Value)) fun y9 =>
 Option.bind (cond (cond (y6.2 != 0) true (y9 != 0)) (some default) (r29_whole m d_.Long)) fun y10 =>
 lt (cond (cond (y6.2 != 0) true (y9 != 0)) true (!y10)) fun x11 =>
 cond x11 (
 some 8) (
 lt (cond (decide (d_.Origin < 1)) true (decide (3 < d_.Origin))) fun x16 =>
 lt (cond (cond x16 true (!(r29_in d_.Layer))) true (!(r29_in d_.Order))) fun x17 =>
 lt (cond (cond x17 true (!(r29_in d_.Weight.e0))) true (!(r29_in d_.Weight.e1))) fun x18 =>
 cond (cond x18 true (!(r29_in d_.Weight.e2))) (
 some 8) (
 lt (cond d_.Attached (cond (cond (d_.Origin != 3) true (d_.Layer != 0)) true (!((d_.Weight.e0 == 0) && ((d_.Weight.e1 == 0) && ((d_.Weight.e2 == 0) && true))))) false) fun x23 =>
 cond x23 (
 some 8) (
 some 0)))
def r29_All_L1 (m : Nat) (l_ : List TDeclared) : Nat → Int → Option (Sum (Int) (Unit))
 | 0, _ => none
 | kk + 1, v6 =>
  cond (decide (v6 < (ln l_))) (
  chk (0 ≤ v6 ∧ v6 < ln l_) <|
  Option.bind (r29_Check m (gi l_ v6)) fun y10 =>
  cond (y10 != 0) (
  some (.inl y10)) (
  r29_All_L1 m l_ kk (w64 (v6 + 1)))) (
  some (.inr ()))
def r29_All (m : Nat) (l_ : List TDeclared) : Option (Int) :=
 Option.bind (
 r29_All_L1 m l_ m 0) fun (z3 : Sum (Int) (Unit)) => sumK z3 fun s_z3 =>
 some 0
structure TA7_int where
 e0 : Int
 e1 : Int
 e2 : Int
 e3 : Int
 e4 : Int
 e5 : Int
 e6 : Int
instance : Inhabited TA7_int := ⟨⟨default, default, default, default, default, default, default⟩⟩
def r29_Ranked (d_ : TDeclared) : TA7_int :=
 lt (
 cond d_.Attached (
 1) (
 0)) fun (z14 : Int) =>
 lt (
 cond d_.Important (
 (w64 (7 - (w64 d_.Origin)), w64 (1000000 - d_.Layer))) (
 (w64 d_.Origin, d_.Layer))) fun (z22 : Int × Int) =>
 (TA7_int.mk z22.1 z14 z22.2 d_.Weight.e0 d_.Weight.e1 d_.Weight.e2 d_.Order)
def r29_Less_L1 (m : Nat) (y10 : TA7_int) (y11 : TA7_int) : Nat → Int → Option (Sum (Bool) (Unit))
 | 0, _ => none
 | kk + 1, v22 =>
  cond (decide (v22 < 7)) (
  chk (0 ≤ v22 ∧ v22 < (7 : Int)) <|
  lt (gi [y10.e0, y10.e1, y10.e2, y10.e3, y10.e4, y10.e5, y10.e6] v22) fun x26 =>
  lt (gi [y11.e0, y11.e1, y11.e2, y11.e3, y11.e4, y11.e5, y11.e6] v22) fun x27 =>
  cond (x26 != x27) (
  lt (gi [y10.e0, y10.e1, y10.e2, y10.e3, y10.e4, y10.e5, y10.e6] v22) fun x30 =>
  lt (gi [y11.e0, y11.e1, y11.e2, y11.e3, y11.e4, y11.e5, y11.e6] v22) fun x31 =>
  some (.inl (decide (x30 < x31)))) (
  r29_Less_L1 m y10 y11 kk (w64 (v22 + 1)))) (
  some (.inr ()))
def r29_Less (m : Nat) (a_ : TDeclared) (b_ : TDeclared) : Option (Bool) :=
 lt (r29_Ranked a_) fun y10 =>
 lt (r29_Ranked b_) fun y11 =>
 Option.bind (
 r29_Less_L1 m y10 y11 m 0) fun (z19 : Sum (Bool) (Unit)) => sumK z19 fun s_z19 =>
 some false
def r29_InOrder_L1 (m : Nat) (l_ : List TDeclared) : Nat → Int → Option (Sum (Bool) (Unit))
 | 0, _ => none
 | kk + 1, v6 =>
  cond (decide (v6 < (ln l_))) (
  chk (0 ≤ v6 ∧ v6 < ln l_) <|
  chk (0 ≤ (w64 (v6 - 1)) ∧ (w64 (v6 - 1)) < ln l_) <|
  Option.bind (r29_Less 64 (gi l_ v6) (gi l_ (w64 (v6 - 1)))) fun y11 =>
  cond y11 (
  some (.inl false)) (
  r29_InOrder_L1 m l_ kk (w64 (v6 + 1)))) (
  some (.inr ()))
def r29_InOrder (m : Nat) (l_ : List TDeclared) : Option (Bool) :=
 Option.bind (
 r29_InOrder_L1 m l_ m 1) fun (z3 : Sum (Bool) (Unit)) => sumK z3 fun s_z3 =>
 some true
def r31_Asked (m : Nat) (l_ : List TDeclared) : Option (Int) :=
 Option.bind (r29_All m l_) fun y3 =>
 cond (y3 != 0) (
 some y3) (
 Option.bind (r29_InOrder m l_) fun y10 =>
 cond (!y10) (
 some 2) (
 some 0))
def wide_clone_L1 (m : Nat) (l_ : List TValue) (rec_wide_clone : (List TValue) → Option (List TValue)) : Nat → (List TValue) → Int → Option (List TValue)
 | 0, _, _ => none
 | kk + 1, v9, v11 =>
  cond (decide (v11 < (ln l_))) (
  chk (0 ≤ v11 ∧ v11 < ln l_) <|
  Option.bind (rec_wide_clone ((gi l_ v11).List_)) fun y24 =>
  chk (ln v9 + ln ([(TValue.mk ((gi l_ v11).Token) y24)] : List TValue) ≤ 1099511627776) <|
  lt (v9 ++ ([(TValue.mk ((gi l_ v11).Token) y24)] : List TValue)) fun q30 =>
  wide_clone_L1 m l_ rec_wide_clone kk q30 (w64 (v11 + 1))) (
  some v9)
def wide_clone_r (m : Nat) : Nat → (List TValue) → Option (List TValue)
 | 0, _ => none
 | k + 1, l_ =>
  Option.bind (
  wide_clone_L1 m l_ (wide_clone_r m k) m ([] : List TValue) 0) fun (z5 : List TValue) =>
  some z5
def wide_clone (m : Nat) (l_ : List TValue) : Option (List TValue) := wide_clone_r m  m l_
def wide_Lesser_L1 (m : Nat) (l_ : List TDeclared) (origin : Int) : Nat → (List TDeclared) → Int → Option (List TDeclared)
 | 0, _, _ => none
 | kk + 1, v23, v25 =>
  cond (decide (v25 < (ln l_))) (
  Option.bind (
  chk (0 ≤ v25 ∧ v25 < ln l_) <|
  cond (decide (((gi l_ v25).Origin) < origin)) (
  Option.bind (wide_clone m ((gi l_ v25).Long.Value)) fun y42 =>
  chk (ln v23 + ln ([(TDeclared.mk (TLong.mk ((gi l_ v25).Long.Name) y42 ((gi l_ v25).Long.Whole)) ((gi l_ v25).Important) ((gi l_ v25).Origin) ((gi l_ v25).Attached) ((gi l_ v25).Layer) ((gi l_ v25).Weight) ((gi l_ v25).Order))] : List TDeclared) ≤ 1099511627776) <|
  lt (v23 ++ ([(TDeclared.mk (TLong.mk ((gi l_ v25).Long.Name) y42 ((gi l_ v25).Long.Whole)) ((gi l_ v25).Important) ((gi l_ v25).Origin) ((gi l_ v25).Attached) ((gi l_ v25).Layer) ((gi l_ v25).Weight) ((gi l_ v25).Order))] : List TDeclared)) fun q58 =>
  some q58) (
  some v23)) fun (z28 : List TDeclared) =>
  wide_Lesser_L1 m l_ origin kk z28 (w64 (v25 + 1))) (
  some v23)
def wide_Lesser (m : Nat) (l_ : List TDeclared) (origin : Int) : Option ((List TDeclared) × Int) :=
 Option.bind (wide_asked m l_) fun y3 =>
 cond (y3 != 0) (
 some (([] : List TDeclared), y3)) (
 lt (cond (decide (origin < 1)) true (decide (3 < origin))) fun x11 =>
 cond x11 (
 some (([] : List TDeclared), 2)) (
 Option.bind (
 wide_Lesser_L1 m l_ origin m ([] : List TDeclared) 0) fun (z19 : List TDeclared) =>
 some (z19, 0)))
def r04_Same_L1 (m : Nat) (a_ : List TValue) (b_ : List TValue) (rec_r04_Same : (List TValue) → (List TValue) → Option (Bool)) : Nat → Int → Option (Sum (Bool) (Unit))
 | 0, _ => none
 | kk + 1, v10 =>
  cond (decide (v10 < (ln a_))) (
  chk (0 ≤ v10 ∧ v10 < ln a_) <|
  chk (0 ≤ v10 ∧ v10 < ln b_) <|
  lt (!((((gi a_ v10).Token.Kind) == ((gi b_ v10).Token.Kind)) && ((((gi a_ v10).Token.Text) == ((gi b_ v10).Token.Text)) && ((((gi a_ v10).Token.Num) == ((gi b_ v10).Token.Num)) && ((((gi a_ v10).Token.Unit) == ((gi b_ v10).Token.Unit)) && ((((gi a_ v10).Token.Flag) == ((gi b_ v10).Token.Flag)) && true)))))) fun x15 =>
  Option.bind (cond x15 (some default) (rec_r04_Same ((gi a_ v10).List_) ((gi b_ v10).List_))) fun y16 =>
  cond (cond x15 true (!y16)) (
  some (.inl false)) (
  r04_Same_L1 m a_ b_ rec_r04_Same kk (w64 (v10 + 1)))) (
  some (.inr ()))
def r04_Same_r (m : Nat) : Nat → (List TValue) → (List TValue) → Option (Bool)
 | 0, _, _ => none
 | k + 1, a_, b_ =>
  cond ((ln a_) != (ln b_)) (
  some false) (
  Option.bind (
  r04_Same_L1 m a_ b_ (r04_Same_r m k) m 0) fun (z7 : Sum (Bool) (Unit)) => sumK z7 fun s_z7 =>
  some true)
def r04_Same (m : Nat) (a_ : List TValue) (b_ : List TValue) : Option (Bool) := r04_Same_r m  m a_ b_
def r27_SameLongs_L1 (m : Nat) (a_ : List TLong) (b_ : List TLong) : Nat → Int → Option (Sum (Bool) (Unit))
 | 0, _ => none
 | kk + 1, v10 =>
  cond (decide (v10 < (ln a_))) (
  chk (0 ≤ v10 ∧ v10 < ln a_) <|
  chk (0 ≤ v10 ∧ v10 < ln b_) <|
  lt (!(((gi a_ v10).Name) == ((gi b_ v10).Name))) fun x15 =>
  lt (cond x15 true (!(((gi a_ v10).Whole) == ((gi b_ v10).Whole)))) fun x16 =>
  Option.bind (cond x16 (some default) (r04_Same m ((gi a_ v10).Value) ((gi b_ v10).Value))) fun y17 =>
  cond (cond x16 true (!y17)) (
  some (.inl false)) (
  r27_SameLongs_L1 m a_ b_ kk (w64 (v10 + 1)))) (
  some (.inr ()))
def r27_SameLongs (m : Nat) (a_ : List TLong) (b_ : List TLong) : Option (Bool) :=
 cond ((ln a_) != (ln b_)) (
 some false) (
 Option.bind (
 r27_SameLongs_L1 m a_ b_ m 0) fun (z7 : Sum (Bool) (Unit)) => sumK z7 fun s_z7 =>
 some true)
def r29_SameOne (m : Nat) (a_ : TDeclared) (b_ : TDeclared) : Option (Bool) :=
 Option.bind (r27_SameLongs m ([a_.Long] : List TLong) ([b_.Long] : List TLong)) fun y21 =>
 lt (cond y21 (a_.Important == b_.Important) false) fun x22 =>
 lt (cond (cond x22 (a_.Origin == b_.Origin) false) (a_.Attached == b_.Attached) false) fun x23 =>
 lt (cond (cond x23 (a_.Layer == b_.Layer) false) ((a_.Weight.e0 == b_.Weight.e0) && ((a_.Weight.e1 == b_.Weight.e1) && ((a_.Weight.e2 == b_.Weight.e2) && true))) false) fun x24 =>
 some (cond x24 (a_.Order == b_.Order) false)
def wide_mean_3 (m : Nat) (l_ : List TDeclared) (at_ : Int) (word : Str) : Option (Int × Str) :=
 chk (0 ≤ at_ ∧ at_ < ln l_) <|
 cond (word == [114, 101, 118, 101, 114, 116]) (
 Option.bind (wide_decide m l_ ((gi l_ at_).Origin) ((gi l_ at_).Long.Name)) fun y10 =>
 some (y10.1, y10.2)) (
 cond (word == [117, 110, 115, 101, 116]) (
 Option.bind (wide_unset m ((gi l_ at_).Long.Name)) fun y15 =>
 some ((-1), y15)) (
 some ((-1), word)))
def wide_Mean (m : Nat) (l_ : List TDeclared) (at_ : Int) (word : Str) : Option (Int × Str × Int) :=
 Option.bind (wide_asked m l_) fun y3 =>
 cond (y3 != 0) (
 some (0, [], y3)) (
 Option.bind (
 lt (cond (decide (at_ < 0)) true (decide ((ln l_) ≤ at_))) fun x11 =>
 lt (x11) fun x12 =>
 cond x12 (
 some true) (
 Option.bind (slices_Contains_string_string 64 ([[105, 110, 105, 116, 105, 97, 108], [105, 110, 104, 101, 114, 105, 116], [117, 110, 115, 101, 116], [114, 101, 118, 101, 114, 116]] : List Str) word) fun y25 =>
 some (!y25))) fun (z10 : Bool) =>
 cond z10 (
 some (0, [], 2)) (
 Option.bind (wide_mean_3 m l_ at_ word) fun y30 =>
 some (y30.1, y30.2, 0)))
def slices_Clone_api_Declared_api_Declared (s : List TDeclared) : Option (List TDeclared) :=
 chk (ln ([] : List TDeclared) + ln s ≤ 1099511627776) <|
 lt (([] : List TDeclared) ++ s) fun q22 =>
 some q22
def sorter_clone_L1 (m : Nat) (l_ : List TValue) (rec_sorter_clone : (List TValue) → Option (List TValue)) : Nat → (List TValue) → Int → Option (List TValue)
 | 0, _, _ => none
 | kk + 1, v9, v11 =>
  cond (decide (v11 < (ln l_))) (
  chk (0 ≤ v11 ∧ v11 < ln l_) <|
  Option.bind (rec_sorter_clone ((gi l_ v11).List_)) fun y24 =>
  chk (ln v9 + ln ([(TValue.mk ((gi l_ v11).Token) y24)] : List TValue) ≤ 1099511627776) <|
  lt (v9 ++ ([(TValue.mk ((gi l_ v11).Token) y24)] : List TValue)) fun q30 =>
  sorter_clone_L1 m l_ rec_sorter_clone kk q30 (w64 (v11 + 1))) (
  some v9)
def sorter_clone_r (m : Nat) : Nat → (List TValue) → Option (List TValue)
 | 0, _ => none
 | k + 1, l_ =>
  Option.bind (
  sorter_clone_L1 m l_ (sorter_clone_r m k) m ([] : List TValue) 0) fun (z5 : List TValue) =>
  some z5
def sorter_clone (m : Nat) (l_ : List TValue) : Option (List TValue) := sorter_clone_r m  m l_
def slices_insertionSortCmpFunc_api_Declared_L2 (m : Nat) (data : List TDeclared) (a_ : Int) : Nat → Int → Option (Unit)
 | 0, _ => none
 | kk + 1, v9 =>
  chk ((decide (a_ < v9)) = true → 0 ≤ v9 ∧ v9 < ln data) <|
  chk ((decide (a_ < v9)) = true → 0 ≤ (w64 (v9 - 1)) ∧ (w64 (v9 - 1)) < ln data) <|
  Option.bind (cond (decide (a_ < v9)) (sorter_compare m (gi data v9) (gi data (w64 (v9 - 1)))) (some default)) fun y12 =>
  lt (cond (decide (a_ < v9)) (decide (y12 < 0)) false) fun x13 =>
  cond x13 (
  none) (
  some ())
def slices_insertionSortCmpFunc_api_Declared_L1 (m : Nat) (data : List TDeclared) (a_ : Int) (b_ : Int) : Nat → Int → Option (Unit)
 | 0, _ => none
 | kk + 1, v3 =>
  cond (decide (v3 < b_)) (
  Option.bind (
  slices_insertionSortCmpFunc_api_Declared_L2 m data a_ m v3) fun (z6 : Unit) =>
  slices_insertionSortCmpFunc_api_Declared_L1 m data a_ b_ kk (w64 (v3 + 1))) (
  some ())
def slices_insertionSortCmpFunc_api_Declared (m : Nat) (data : List TDeclared) (a_ : Int) (b_ : Int) : Option (Unit) :=
 slices_insertionSortCmpFunc_api_Declared_L1 m data a_ b_ m (w64 (a_ + 1))
def slices_swapRangeCmpFunc_api_Declared_L1 (m : Nat) (n_ : Int) : Nat → Int → Option (Unit)
 | 0, _ => none
 | kk + 1, v3 =>
  cond (decide (v3 < n_)) (
  none) (
  some ())
def slices_swapRangeCmpFunc_api_Declared (m : Nat) (data : List TDeclared) (a_ : Int) (b_ : Int) (n_ : Int) : Option (Unit) :=
 slices_swapRangeCmpFunc_api_Declared_L1 m n_ m 0
def slices_rotateCmpFunc_api_Declared_L1 (m : Nat) (data : List TDeclared) (m_ : Int) : Nat → Int → Int → Option (Int)
 | 0, _, _ => none
 | kk + 1, v6, v7 =>
  cond (v6 != v7) (
  cond (decide (v7 < v6)) (
  Option.bind (slices_swapRangeCmpFunc_api_Declared m data (w64 (m_ - v6)) m_ v7) fun y12 =>
  slices_rotateCmpFunc_api_Declared_L1 m data m_ kk (w64 (v6 - v7)) v7) (
  Option.bind (slices_swapRangeCmpFunc_api_Declared m data (w64 (m_ - v6)) (w64 ((w64 (m_ + v7)) - v6)) v6) fun y17 =>
  slices_rotateCmpFunc_api_Declared_L1 m data m_ kk v6 (w64 (v7 - v6)))) (
  some v6)
def slices_rotateCmpFunc_api_Declared (m : Nat) (data : List TDeclared) (a_ : Int) (m_ : Int) (b_ : Int) : Option (Unit) :=
 Option.bind (
 slices_rotateCmpFunc_api_Declared_L1 m data m_ m (w64 (m_ - a_)) (w64 (b_ - m_))) fun (z5 : Int) =>
 Option.bind (slices_swapRangeCmpFunc_api_Declared m data (w64 (m_ - z5)) m_ z5) fun y25 =>
 some ()
def slices_symMergeCmpFunc_api_Declared_L1 (m : Nat) (data : List TDeclared) (a_ : Int) : Nat → Int → Int → Option (Int)
 | 0, _, _ => none
 | kk + 1, v9, v10 =>
  cond (decide (v9 < v10)) (
  lt (w64 (Int.fdiv (wu64 (w64 (v9 + v10))) (2 ^ 1))) fun x13 =>
  chk (0 ≤ x13 ∧ x13 < ln data) <|
  chk (0 ≤ a_ ∧ a_ < ln data) <|
  Option.bind (sorter_compare m (gi data x13) (gi data a_)) fun y18 =>
  cond (decide (y18 < 0)) (
  slices_symMergeCmpFunc_api_Declared_L1 m data a_ kk (w64 (x13 + 1)) v10) (
  slices_symMergeCmpFunc_api_Declared_L1 m data a_ kk v9 x13)) (
  some v9)
def slices_symMergeCmpFunc_api_Declared_L2 (m : Nat) (z8 : Int) : Nat → Int → Option (Unit)
 | 0, _ => none
 | kk + 1, v31 =>
  cond (decide (v31 < (w64 (z8 - 1)))) (
  none) (
  some ())
def slices_symMergeCmpFunc_api_Declared_L3 (m : Nat) (data : List TDeclared) (m_ : Int) : Nat → Int → Int → Option (Int)
 | 0, _, _ => none
 | kk + 1, v50, v51 =>
  cond (decide (v50 < v51)) (
  lt (Int.fdiv (wu64 (w64 (v50 + v51))) (2 ^ 1)) fun x54 =>
  chk (0 ≤ m_ ∧ m_ < ln data) <|
  chk (0 ≤ (w64 x54) ∧ (w64 x54) < ln data) <|
  Option.bind (sorter_compare m (gi data m_) (gi data (w64 x54))) fun y59 =>
  cond (!(decide (y59 < 0))) (
  slices_symMergeCmpFunc_api_Declared_L3 m data m_ kk (w64 ((w64 x54) + 1)) v51) (
  slices_symMergeCmpFunc_api_Declared_L3 m data m_ kk v50 (w64 x54))) (
  some v50)
def slices_symMergeCmpFunc_api_Declared_L4 (m : Nat) (z49 : Int) : Nat → Int → Option (Unit)
 | 0, _ => none
 | kk + 1, v72 =>
  cond (decide (z49 < v72)) (
  none) (
  some ())
def slices_symMergeCmpFunc_api_Declared_L5 (m : Nat) (data : List TDeclared) (m_ : Int) (x83 : Int) : Nat → Int → Int → Option (Int)
 | 0, _, _ => none
 | kk + 1, v105, v106 =>
  cond (decide (v105 < v106)) (
  lt (Int.fdiv (wu64 (w64 (v105 + v106))) (2 ^ 1)) fun x109 =>
  lt (w64 ((w64 ((w64 (x83 + m_)) - 1)) - (w64 x109))) fun x112 =>
  chk (0 ≤ x112 ∧ x112 < ln data) <|
  chk (0 ≤ (w64 x109) ∧ (w64 x109) < ln data) <|
  Option.bind (sorter_compare m (gi data x112) (gi data (w64 x109))) fun y115 =>
  cond (!(decide (y115 < 0))) (
  slices_symMergeCmpFunc_api_Declared_L5 m data m_ x83 kk (w64 ((w64 x109) + 1)) v106) (
  slices_symMergeCmpFunc_api_Declared_L5 m data m_ x83 kk v105 (w64 x109))) (
  some v105)
def slices_symMergeCmpFunc_api_Declared_r (m : Nat) : Nat → (List TDeclared) → Int → Int → Int → Option (Unit)
 | 0, _, _, _, _ => none
 | k + 1, data, a_, m_, b_ =>
  Option.bind (
  cond ((w64 (m_ - a_)) == 1) (
  Option.bind (
  slices_symMergeCmpFunc_api_Declared_L1 m data a_ m m_ b_) fun (z8 : Int) =>
  Option.bind (
  slices_symMergeCmpFunc_api_Declared_L2 m z8 m a_) fun (z28 : Unit) =>
  some (.inl ())) (
  some (.inr ()))) fun (z1 : Sum (Unit) (Unit)) => sumK z1 fun s_z1 =>
  Option.bind (
  cond ((w64 (b_ - m_)) == 1) (
  Option.bind (
  slices_symMergeCmpFunc_api_Declared_L3 m data m_ m a_ m_) fun (z49 : Int) =>
  Option.bind (
  slices_symMergeCmpFunc_api_Declared_L4 m z49 m m_) fun (z69 : Unit) =>
  some (.inl ())) (
  some (.inr ()))) fun (z42 : Sum (Unit) (Unit)) => sumK z42 fun s_z42 =>
  lt (w64 (Int.fdiv (wu64 (w64 (a_ + b_))) (2 ^ 1))) fun x83 =>
  Option.bind (
  cond (decide (x83 < m_)) (
  some (w64 ((w64 (x83 + m_)) - b_), x83)) (
  some (a_, m_))) fun (z90 : Int × Int) =>
  Option.bind (
  slices_symMergeCmpFunc_api_Declared_L5 m data m_ x83 m z90.1 z90.2) fun (z104 : Int) =>
  Option.bind (
  lt (cond (decide (z104 < m_)) (decide (m_ < (w64 ((w64 (x83 + m_)) - z104)))) false) fun x128 =>
  cond x128 (
  Option.bind (slices_rotateCmpFunc_api_Declared m data z104 m_ (w64 ((w64 (x83 + m_)) - z104))) fun y131 =>
  some ()) (
  some ())) fun (z127 : Unit) =>
  Option.bind (
  lt (cond (decide (a_ < z104)) (decide (z104 < x83)) false) fun x136 =>
  cond x136 (
  Option.bind ((slices_symMergeCmpFunc_api_Declared_r m k) data a_ z104 x83) fun y139 =>
  some ()) (
  some ())) fun (z135 : Unit) =>
  lt (decide (x83 < (w64 ((w64 (x83 + m_)) - z104)))) fun x143 =>
  lt (cond x143 (decide ((w64 ((w64 (x83 + m_)) - z104)) < b_)) false) fun x144 =>
  cond x144 (
  Option.bind ((slices_symMergeCmpFunc_api_Declared_r m k) data x83 (w64 ((w64 (x83 + m_)) - z104)) b_) fun y147 =>
  some ()) (
  some ())
def slices_symMergeCmpFunc_api_Declared (m : Nat) (data : List TDeclared) (a_ : Int) (m_ : Int) (b_ : Int) : Option (Unit) := slices_symMergeCmpFunc_api_Declared_r m  m data a_ m_ b_
def slices_stableCmpFunc_api_Declared_L1 (m : Nat) (data : List TDeclared) (n_ : Int) : Nat → Int → Int → Option (Int)
 | 0, _, _ => none
 | kk + 1, v6, v7 =>
  cond (decide (v7 ≤ n_)) (
  Option.bind (slices_insertionSortCmpFunc_api_Declared m data v6 v7) fun y10 =>
  slices_stableCmpFunc_api_Declared_L1 m data n_ kk v7 (w64 (v7 + 20))) (
  some v6)
def slices_stableCmpFunc_api_Declared_L3 (m : Nat) (data : List TDeclared) (n_ : Int) (v22 : Int) : Nat → Int → Int → Option (Int)
 | 0, _, _ => none
 | kk + 1, v28, v29 =>
  cond (decide (v29 ≤ n_)) (
  Option.bind (slices_symMergeCmpFunc_api_Declared m data v28 (w64 (v28 + v22)) v29) fun y32 =>
  slices_stableCmpFunc_api_Declared_L3 m data n_ v22 kk v29 (w64 (v29 + (w64 (2 * v22))))) (
  some v28)
def slices_stableCmpFunc_api_Declared_L2 (m : Nat) (data : List TDeclared) (n_ : Int) : Nat → Int → Option (Unit)
 | 0, _ => none
 | kk + 1, v22 =>
  cond (decide (v22 < n_)) (
  Option.bind (
  slices_stableCmpFunc_api_Declared_L3 m data n_ v22 m 0 (w64 (2 * v22))) fun (z27 : Int) =>
  Option.bind (
  cond (decide ((w64 (z27 + v22)) < n_)) (
  Option.bind (slices_symMergeCmpFunc_api_Declared m data z27 (w64 (z27 + v22)) n_) fun y46 =>
  some ()) (
  some ())) fun (z41 : Unit) =>
  slices_stableCmpFunc_api_Declared_L2 m data n_ kk (w64 (v22 * 2))) (
  some ())
def slices_stableCmpFunc_api_Declared (m : Nat) (data : List TDeclared) (n_ : Int) : Option (Unit) :=
 Option.bind (
 slices_stableCmpFunc_api_Declared_L1 m data n_ m 0 20) fun (z5 : Int) =>
 Option.bind (slices_insertionSortCmpFunc_api_Declared m data z5 n_) fun y19 =>
 slices_stableCmpFunc_api_Declared_L2 m data n_ m 20
def slices_SortStableFunc_api_Declared_api_Declared (m : Nat) (x_ : List TDeclared) : Option (Unit) :=
 Option.bind (slices_stableCmpFunc_api_Declared m x_ (ln x_)) fun y1 =>
 some ()
def sorter_Sort_L1 (m : Nat) (y13 : List TDeclared) : Nat → (List TDeclared) → Int → Option (List TDeclared)
 | 0, _, _ => none
 | kk + 1, v23, v25 =>
  cond (decide (v25 < (ln y13))) (
  chk (0 ≤ v25 ∧ v25 < ln v23) <|
  Option.bind (sorter_clone m ((gi v23 v25).Long.Value)) fun y34 =>
  lt (setl v23 v25 (TDeclared.mk (TLong.mk ((gi v23 v25).Long.Name) y34 ((gi v23 v25).Long.Whole)) ((gi v23 v25).Important) ((gi v23 v25).Origin) ((gi v23 v25).Attached) ((gi v23 v25).Layer) ((gi v23 v25).Weight) ((gi v23 v25).Order))) fun q44 =>
  sorter_Sort_L1 m y13 kk q44 (w64 (v25 + 1))) (
  some v23)
def sorter_Sort (m : Nat) (l_ : List TDeclared) : Option ((List TDeclared) × Int) :=
 Option.bind (sorter_check m l_) fun y3 =>
 cond (y3 != 0) (
 some (([] : List TDeclared), y3)) (
 Option.bind (slices_Clone_api_Declared_api_Declared l_) fun y13 =>
 Option.bind (
 sorter_Sort_L1 m y13 m y13 0) fun (z20 : List TDeclared) =>
 Option.bind (slices_SortStableFunc_api_Declared_api_Declared m z20) fun y50 =>
 some (z20, 0))
def r29_Same_L1 (m : Nat) (a_ : List TDeclared) (b_ : List TDeclared) : Nat → Int → Option (Sum (Bool) (Unit))
 | 0, _ => none
 | kk + 1, v10 =>
  cond (decide (v10 < (ln a_))) (
  chk (0 ≤ v10 ∧ v10 < ln a_) <|
  chk (0 ≤ v10 ∧ v10 < ln b_) <|
  Option.bind (r29_SameOne m (gi a_ v10) (gi b_ v10)) fun y15 =>
  cond (!y15) (
  some (.inl false)) (
  r29_Same_L1 m a_ b_ kk (w64 (v10 + 1)))) (
  some (.inr ()))
def r29_Same (m : Nat) (a_ : List TDeclared) (b_ : List TDeclared) : Option (Bool) :=
 cond ((ln a_) != (ln b_)) (
 some false) (
 Option.bind (
 r29_Same_L1 m a_ b_ m 0) fun (z7 : Sum (Bool) (Unit)) => sumK z7 fun s_z7 =>
 some true)
def law31_WideLesser_L1 (m : Nat) (l_ : List TDeclared) (origin : Int) (y16 : (List TDeclared) × Int) : Nat → Int → Int → Option (Sum (Bool) (Int))
 | 0, _, _ => none
 | kk + 1, v32, v33 =>
  cond (decide (v33 < (ln l_))) (
  Option.bind (
  Option.bind (
  chk (0 ≤ v33 ∧ v33 < ln l_) <|
  cond (decide (((gi l_ v33).Origin) < origin)) (
  chk ((decide ((ln y16.1) ≤ v32)) = false → 0 ≤ v32 ∧ v32 < ln y16.1) <|
  Option.bind (cond (decide ((ln y16.1) ≤ v32)) (some default) (r29_SameOne m (gi y16.1 v32) (gi l_ v33))) fun y42 =>
  lt (cond (decide ((ln y16.1) ≤ v32)) true (!y42)) fun x43 =>
  cond x43 (
  some (.inl (.inl (.inl false)))) (
  some (.inr (w64 (v32 + 1))))) (
  some (.inr v32))) fun (z37 : Sum (Sum (Sum (Bool) (Int)) (Int)) (Int)) => sumK z37 fun s_z37 =>
  chk (0 ≤ v33 ∧ v33 < ln l_) <|
  cond (((gi l_ v33).Origin) != 1) (
  some (.inr s_z37)) (
  Option.bind (wide_Mean m l_ v33 [114, 101, 118, 101, 114, 116]) fun y55 =>
  Option.bind (wide_Mean m l_ v33 [117, 110, 115, 101, 116]) fun y58 =>
  Option.bind (props_Inherited 64 ((gi l_ v33).Long.Name)) fun y61 =>
  lt (cond (cond (y55.2.2 != 0) true (y58.2.2 != 0)) true (y55.1 != (-1))) fun x64 =>
  lt (cond (cond x64 true (y58.1 != (-1))) true (!(y55.2.1 == y58.2.1))) fun x65 =>
  lt (cond (cond x65 true (y61.2 != 0)) true (!(y61.1 == (y55.2.1 == [105, 110, 104, 101, 114, 105, 116])))) fun x66 =>
  cond x66 (
  some (.inl (.inl false))) (
  some (.inr s_z37)))) fun (z36 : Sum (Sum (Bool) (Int)) (Int)) => sumK z36 fun s_z36 =>
  law31_WideLesser_L1 m l_ origin y16 kk s_z36 (w64 (v33 + 1))) (
  some (.inr v32))
def law31_WideLesser (m : Nat) (l_ : List TDeclared) (origin : Int) : Option (Bool) :=
 Option.bind (law31_alive 300) fun y3 =>
 Option.bind (r29_Great m l_) fun y6 =>
 Option.bind (cond y6 (some default) (r31_Asked m l_)) fun y7 =>
 lt (cond (cond y6 true (y7 != 0)) true (decide (origin < 1))) fun x8 =>
 lt (cond (cond x8 true (decide (3 < origin))) true (!y3)) fun x9 =>
 cond x9 (
 some y3) (
 Option.bind (wide_Lesser m l_ origin) fun y16 =>
 cond (y16.2 != 0) (
 some false) (
 Option.bind (
 law31_WideLesser_L1 m l_ origin y16 m 0 0) fun (z29 : Sum (Bool) (Int)) => sumK z29 fun s_z29 =>
 Option.bind (sorter_Sort m y16.1) fun y81 =>
 lt (cond (cond y3 (s_z29 == (ln y16.1)) false) (y81.2 == 0) false) fun x88 =>
 Option.bind (cond x88 (r29_Same m y81.1 y16.1) (some default)) fun y89 =>
 some (cond x88 y89 false)))
end Go.Proofs.YtehlikdeobajcaaGreatDoor

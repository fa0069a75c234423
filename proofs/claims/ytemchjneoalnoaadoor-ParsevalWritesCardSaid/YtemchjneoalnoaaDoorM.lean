/-
  What the Go functions compute, as Lean functions, and that a call returns just that. Printed by a program.
-/
import Derived.Test.YtemchjneoalnoaaDoorRows
import Derived.Test.YtemchjneoalnoaaDoorX
import Derived.Test.YtemchjneoalnoaaDoorIF
import Derived.Test.YtemchjneoalnoaaDoorMP
set_option linter.unusedVariables false
set_option maxRecDepth 20000
set_option maxHeartbeats 4000000
namespace Go.Proofs.YtemchjneoalnoaaDoor
open Go.V Go.RowKit
def gl_math_bits_deBruijn32tab : List Int := [0, 1, 28, 2, 29, 14, 24, 3, 30, 22, 20, 15, 25, 17, 4, 8, 31, 27, 13, 23, 21, 19, 16, 7, 26, 12, 18, 6, 11, 5, 10, 9]
def gl_math_bits_deBruijn64tab : List Int := [0, 1, 56, 2, 57, 49, 28, 3, 61, 58, 42, 50, 38, 29, 17, 4, 62, 47, 59, 36, 45, 43, 51, 22, 53, 39, 33, 30, 24, 18, 12, 5, 63, 55, 48, 27, 60, 41, 37, 16, 46, 35, 44, 21, 52, 32, 23, 11, 54, 26, 40, 15, 34, 20, 31, 10, 25, 14, 19, 9, 13, 8, 7, 6]
structure TColor where
  Red : Int
  Green : Int
  Blue : Int
  Alpha : Int
instance : Inhabited TColor := ⟨⟨default, default, default, default⟩⟩
structure TVal where
  Kind : Int
  Word : Str
  Num : Int
  Color : TColor
instance : Inhabited TVal := ⟨⟨default, default, default, default⟩⟩
def props_Check (v_ : TVal) : Option (Int) :=
  Option.bind (
  Option.bind (
  cond (v_.Kind == 1) (
  Option.bind (
  some (.inr (v_.Word, 0, 0, 0, 0, 0))) fun r25 => some (.inl r25)) (
  cond (v_.Kind == 6) (
  some (.inr (w64 (Int.tdiv 1000000000000 1000)))) (
  Option.bind (
  cond (v_.Kind == 2) (
  some (v_.Kind == 2)) (
  cond (v_.Kind == 3) (
  some (v_.Kind == 3)) (
  cond (v_.Kind == 4) (
  some (v_.Kind == 4)) (
  some (v_.Kind == 5))))) fun (z30 : Bool) =>
  cond z30 (
  some (.inr 1000000000000)) (
  cond (v_.Kind == 7) (
  Option.bind (
  some (.inr ([], v_.Color.Red, v_.Color.Green, v_.Color.Blue, v_.Color.Alpha, 0))) fun r48 => some (.inl r48)) (
  cond (v_.Kind == 8) (
  Option.bind (
  some (.inr ([], 0, 0, 0, 0, 0))) fun r51 => some (.inl r51)) (
  Option.bind (
  some (.inl 8)) fun r54 => some (.inl r54))))))) fun (z18 : Sum (Sum (Int) (Str × Int × Int × Int × Int × Int)) (Int)) => sumK z18 fun s_z18 =>
  lt (if w64 (0 - s_z18) < if v_.Num < s_z18 then v_.Num else s_z18 then if v_.Num < s_z18 then v_.Num else s_z18 else w64 (0 - s_z18)) fun x61 =>
  some (.inr ([], 0, 0, 0, 0, x61))) fun (z15 : Sum (Int) (Str × Int × Int × Int × Int × Int)) => sumK z15 fun s_z15 =>
  lt (!((v_.Kind == v_.Kind) && ((v_.Word == s_z15.1) && ((v_.Num == s_z15.2.2.2.2.2) && (((v_.Color.Red == s_z15.2.1) && ((v_.Color.Green == s_z15.2.2.1) && ((v_.Color.Blue == s_z15.2.2.2.1) && ((v_.Color.Alpha == s_z15.2.2.2.2.1) && true)))) && true))))) fun x67 =>
  lt (cond x67 true (cond (v_.Kind == 1) (v_.Word == []) false)) fun x68 =>
  cond x68 (
  some 8) (
  some 0)
def strings_Join_L1 (m : Nat) (elems : List Str) : Nat → Int → Int → Option (Int)
  | 0, _, _ => none
  | kk + 1, v31, v32 =>
    cond (decide (v32 < (ln elems))) (
    chk (0 ≤ v32 ∧ v32 < ln elems) <|
    lt (decide ((w64 (9223372036854775807 - v31)) < (ln (gi elems v32)))) fun x38 =>
    cond x38 (
    none) (
    strings_Join_L1 m elems kk (w64 (v31 + (ln (gi elems v32)))) (w64 (v32 + 1)))) (
    some v31)
def strings_Join_L2 (m : Nat) (sep : Str) (q69 : List Str) : Nat → Int → Str → Option (Str)
  | 0, _, _ => none
  | kk + 1, v76, v77 =>
    cond (decide (v76 < (ln q69))) (
    chk (0 ≤ v76 ∧ v76 < ln q69) <|
    chk (ln v77 + ln sep ≤ 1099511627776) <|
    lt (v77 ++ sep) fun q87 =>
    chk (ln q87 + ln (gi q69 v76) ≤ 1099511627776) <|
    lt (q87 ++ (gi q69 v76)) fun q94 =>
    strings_Join_L2 m sep q69 kk (w64 (v76 + 1)) q94) (
    some v77)
def strings_Join (m : Nat) (elems : List Str) (sep : Str) : Option (Str) :=
  cond ((ln elems) == 0) (
  some []) (
  cond ((ln elems) == 1) (
  chk (0 ≤ (0 : Int) ∧ (0 : Int) < ln elems) <|
  some (gi elems (0 : Int))) (
  Option.bind (
  cond (decide (0 < (ln sep))) (
  chk ((w64 ((ln elems) - 1)) ≠ 0) <|
  lt (w64 (Int.tdiv 9223372036854775807 (w64 ((ln elems) - 1)))) fun x20 =>
  cond (decide (x20 ≤ (ln sep))) (
  none) (
  lt (w64 (0 + (w64 ((ln sep) * (w64 ((ln elems) - 1)))))) fun x23 =>
  some x23)) (
  some 0)) fun (z16 : Int) =>
  Option.bind (
  strings_Join_L1 m elems m z16 0) fun (z28 : Int) =>
  chk (0 ≤ z28 ∧ z28 ≤ 281474976710656) <|
  chk (0 ≤ (0 : Int) ∧ (0 : Int) < ln elems) <|
  chk (ln ([] : Str) + ln (gi elems (0 : Int)) ≤ 1099511627776) <|
  lt (([] : Str) ++ (gi elems (0 : Int))) fun q61 =>
  Option.bind (
  chk (0 ≤ (1 : Int) ∧ (1 : Int) ≤ (ln elems) ∧ (ln elems) ≤ ln elems) <|
  lt (subl elems (1 : Int) (ln elems)) fun q69 =>
  strings_Join_L2 m sep q69 m 0 q61) fun (z65 : Str) =>
  some z65))
def strconv_small (i : Int) : Option (Str) :=
  cond (decide (i < 10)) (
  chk (0 ≤ i ∧ i ≤ (w64 (i + 1)) ∧ (w64 (i + 1)) ≤ ln [48, 49, 50, 51, 52, 53, 54, 55, 56, 57, 97, 98, 99, 100, 101, 102, 103, 104, 105, 106, 107, 108, 109, 110, 111, 112, 113, 114, 115, 116, 117, 118, 119, 120, 121, 122]) <|
  lt (sub [48, 49, 50, 51, 52, 53, 54, 55, 56, 57, 97, 98, 99, 100, 101, 102, 103, 104, 105, 106, 107, 108, 109, 110, 111, 112, 113, 114, 115, 116, 117, 118, 119, 120, 121, 122] i (w64 (i + 1))) fun x6 =>
  some x6) (
  chk (0 ≤ (w64 (i * 2)) ∧ (w64 (i * 2)) ≤ (w64 ((w64 (i * 2)) + 2)) ∧ (w64 ((w64 (i * 2)) + 2)) ≤ ln [48, 48, 48, 49, 48, 50, 48, 51, 48, 52, 48, 53, 48, 54, 48, 55, 48, 56, 48, 57, 49, 48, 49, 49, 49, 50, 49, 51, 49, 52, 49, 53, 49, 54, 49, 55, 49, 56, 49, 57, 50, 48, 50, 49, 50, 50, 50, 51, 50, 52, 50, 53, 50, 54, 50, 55, 50, 56, 50, 57, 51, 48, 51, 49, 51, 50, 51, 51, 51, 52, 51, 53, 51, 54, 51, 55, 51, 56, 51, 57, 52, 48, 52, 49, 52, 50, 52, 51, 52, 52, 52, 53, 52, 54, 52, 55, 52, 56, 52, 57, 53, 48, 53, 49, 53, 50, 53, 51, 53, 52, 53, 53, 53, 54, 53, 55, 53, 56, 53, 57, 54, 48, 54, 49, 54, 50, 54, 51, 54, 52, 54, 53, 54, 54, 54, 55, 54, 56, 54, 57, 55, 48, 55, 49, 55, 50, 55, 51, 55, 52, 55, 53, 55, 54, 55, 55, 55, 56, 55, 57, 56, 48, 56, 49, 56, 50, 56, 51, 56, 52, 56, 53, 56, 54, 56, 55, 56, 56, 56, 57, 57, 48, 57, 49, 57, 50, 57, 51, 57, 52, 57, 53, 57, 54, 57, 55, 57, 56, 57, 57]) <|
  lt (sub [48, 48, 48, 49, 48, 50, 48, 51, 48, 52, 48, 53, 48, 54, 48, 55, 48, 56, 48, 57, 49, 48, 49, 49, 49, 50, 49, 51, 49, 52, 49, 53, 49, 54, 49, 55, 49, 56, 49, 57, 50, 48, 50, 49, 50, 50, 50, 51, 50, 52, 50, 53, 50, 54, 50, 55, 50, 56, 50, 57, 51, 48, 51, 49, 51, 50, 51, 51, 51, 52, 51, 53, 51, 54, 51, 55, 51, 56, 51, 57, 52, 48, 52, 49, 52, 50, 52, 51, 52, 52, 52, 53, 52, 54, 52, 55, 52, 56, 52, 57, 53, 48, 53, 49, 53, 50, 53, 51, 53, 52, 53, 53, 53, 54, 53, 55, 53, 56, 53, 57, 54, 48, 54, 49, 54, 50, 54, 51, 54, 52, 54, 53, 54, 54, 54, 55, 54, 56, 54, 57, 55, 48, 55, 49, 55, 50, 55, 51, 55, 52, 55, 53, 55, 54, 55, 55, 55, 56, 55, 57, 56, 48, 56, 49, 56, 50, 56, 51, 56, 52, 56, 53, 56, 54, 56, 55, 56, 56, 56, 57, 57, 48, 57, 49, 57, 50, 57, 51, 57, 52, 57, 53, 57, 54, 57, 55, 57, 56, 57, 57] (w64 (i * 2)) (w64 ((w64 (i * 2)) + 2))) fun x10 =>
  some x10)
def math_bits_Len64 (x_ : Int) : Option (Int) :=
  Option.bind (
  cond (decide (4294967296 ≤ x_)) (
  some (Int.fdiv x_ (2 ^ 32), 32)) (
  some (x_, 0))) fun (z3 : Int × Int) =>
  Option.bind (
  cond (decide (65536 ≤ z3.1)) (
  some (Int.fdiv z3.1 (2 ^ 16), w64 (z3.2 + 16))) (
  some (z3.1, z3.2))) fun (z11 : Int × Int) =>
  Option.bind (
  cond (decide (256 ≤ z11.1)) (
  some (Int.fdiv z11.1 (2 ^ 8), w64 (z11.2 + 8))) (
  some (z11.1, z11.2))) fun (z19 : Int × Int) =>
  chk (0 ≤ (wu8 z19.1) ∧ (wu8 z19.1) < ln [0, 1, 2, 2, 3, 3, 3, 3, 4, 4, 4, 4, 4, 4, 4, 4, 5, 5, 5, 5, 5, 5, 5, 5, 5, 5, 5, 5, 5, 5, 5, 5, 6, 6, 6, 6, 6, 6, 6, 6, 6, 6, 6, 6, 6, 6, 6, 6, 6, 6, 6, 6, 6, 6, 6, 6, 6, 6, 6, 6, 6, 6, 6, 6, 7, 7, 7, 7, 7, 7, 7, 7, 7, 7, 7, 7, 7, 7, 7, 7, 7, 7, 7, 7, 7, 7, 7, 7, 7, 7, 7, 7, 7, 7, 7, 7, 7, 7, 7, 7, 7, 7, 7, 7, 7, 7, 7, 7, 7, 7, 7, 7, 7, 7, 7, 7, 7, 7, 7, 7, 7, 7, 7, 7, 7, 7, 7, 7, 8, 8, 8, 8, 8, 8, 8, 8, 8, 8, 8, 8, 8, 8, 8, 8, 8, 8, 8, 8, 8, 8, 8, 8, 8, 8, 8, 8, 8, 8, 8, 8, 8, 8, 8, 8, 8, 8, 8, 8, 8, 8, 8, 8, 8, 8, 8, 8, 8, 8, 8, 8, 8, 8, 8, 8, 8, 8, 8, 8, 8, 8, 8, 8, 8, 8, 8, 8, 8, 8, 8, 8, 8, 8, 8, 8, 8, 8, 8, 8, 8, 8, 8, 8, 8, 8, 8, 8, 8, 8, 8, 8, 8, 8, 8, 8, 8, 8, 8, 8, 8, 8, 8, 8, 8, 8, 8, 8, 8, 8, 8, 8, 8, 8, 8, 8, 8, 8, 8, 8, 8, 8, 8, 8, 8, 8, 8, 8]) <|
  lt (bat [0, 1, 2, 2, 3, 3, 3, 3, 4, 4, 4, 4, 4, 4, 4, 4, 5, 5, 5, 5, 5, 5, 5, 5, 5, 5, 5, 5, 5, 5, 5, 5, 6, 6, 6, 6, 6, 6, 6, 6, 6, 6, 6, 6, 6, 6, 6, 6, 6, 6, 6, 6, 6, 6, 6, 6, 6, 6, 6, 6, 6, 6, 6, 6, 7, 7, 7, 7, 7, 7, 7, 7, 7, 7, 7, 7, 7, 7, 7, 7, 7, 7, 7, 7, 7, 7, 7, 7, 7, 7, 7, 7, 7, 7, 7, 7, 7, 7, 7, 7, 7, 7, 7, 7, 7, 7, 7, 7, 7, 7, 7, 7, 7, 7, 7, 7, 7, 7, 7, 7, 7, 7, 7, 7, 7, 7, 7, 7, 8, 8, 8, 8, 8, 8, 8, 8, 8, 8, 8, 8, 8, 8, 8, 8, 8, 8, 8, 8, 8, 8, 8, 8, 8, 8, 8, 8, 8, 8, 8, 8, 8, 8, 8, 8, 8, 8, 8, 8, 8, 8, 8, 8, 8, 8, 8, 8, 8, 8, 8, 8, 8, 8, 8, 8, 8, 8, 8, 8, 8, 8, 8, 8, 8, 8, 8, 8, 8, 8, 8, 8, 8, 8, 8, 8, 8, 8, 8, 8, 8, 8, 8, 8, 8, 8, 8, 8, 8, 8, 8, 8, 8, 8, 8, 8, 8, 8, 8, 8, 8, 8, 8, 8, 8, 8, 8, 8, 8, 8, 8, 8, 8, 8, 8, 8, 8, 8, 8, 8, 8, 8, 8, 8, 8, 8, 8, 8] (wu8 z19.1)) fun x28 =>
  some (w64 (z19.2 + (w64 x28)))
def strconv_log10Pow2 (x_ : Int) : Int :=
  Int.fdiv (w64 (x_ * 78913)) (2 ^ 18)
def strconv_isPowerOfTwo (x_ : Int) : Bool :=
  (ibit .and .i64 x_ (w64 (x_ - 1))) == 0
def math_bits_TrailingZeros64 (x_ : Int) : Option (Int) :=
  cond (x_ == 0) (
  some 64) (
  lt (wu64 ((ibit .and .u64 x_ (wu64 (0 - x_))) * 285870213051353865)) fun x7 =>
  chk (0 ≤ (Int.fdiv x7 (2 ^ 58)) ∧ (Int.fdiv x7 (2 ^ 58)) < (64 : Int)) <|
  lt ((gi gl_math_bits_deBruijn64tab (Int.fdiv x7 (2 ^ 58)))) fun x9 =>
  some (w64 x9))
def math_bits_TrailingZeros (x_ : Int) : Option (Int) :=
  Option.bind (math_bits_TrailingZeros64 x_) fun y3 =>
  some y3
def strconv_formatBits_L1 (m : Nat) (base : Int) (y20 : Int) : Nat → Int → Int → (List Int) → Option (Int × Int × (List Int))
  | 0, _, _, _ => none
  | kk + 1, v28, v29, v30 =>
    cond (decide ((wu64 base) ≤ v28)) (
    lt (ibit .and .u64 v28 (wu64 ((wu64 base) - 1))) fun x35 =>
    chk (0 ≤ x35 ∧ x35 < ln [48, 49, 50, 51, 52, 53, 54, 55, 56, 57, 97, 98, 99, 100, 101, 102, 103, 104, 105, 106, 107, 108, 109, 110, 111, 112, 113, 114, 115, 116, 117, 118, 119, 120, 121, 122]) <|
    lt (bat [48, 49, 50, 51, 52, 53, 54, 55, 56, 57, 97, 98, 99, 100, 101, 102, 103, 104, 105, 106, 107, 108, 109, 110, 111, 112, 113, 114, 115, 116, 117, 118, 119, 120, 121, 122] x35) fun x37 =>
    chk (0 ≤ (w64 (v29 - 1)) ∧ (w64 (v29 - 1)) < (65 : Int)) <|
    lt (seti v30 (w64 (v29 - 1)) x37) fun q43 =>
    chk (0 ≤ (wu64 y20)) <|
    lt (Int.fdiv v28 (2 ^ (Nat.min (wu64 y20).toNat 64))) fun x45 =>
    strconv_formatBits_L1 m base y20 kk x45 (w64 (v29 - 1)) q43) (
    some (v28, v29, v30))
def strconv_formatBits_L2 (m : Nat) (base : Int) : Nat → Int → Int → (List Int) → Option (Int × Int × (List Int))
  | 0, _, _, _ => none
  | kk + 1, v64, v65, v66 =>
    cond (decide ((wu64 base) ≤ v64)) (
    chk ((wu64 base) ≠ 0) <|
    lt (wu64 ((wu64 (Int.tdiv v64 (wu64 base))) * (wu64 base))) fun x74 =>
    chk (0 ≤ (wu64 (v64 - x74)) ∧ (wu64 (v64 - x74)) < ln [48, 49, 50, 51, 52, 53, 54, 55, 56, 57, 97, 98, 99, 100, 101, 102, 103, 104, 105, 106, 107, 108, 109, 110, 111, 112, 113, 114, 115, 116, 117, 118, 119, 120, 121, 122]) <|
    lt (bat [48, 49, 50, 51, 52, 53, 54, 55, 56, 57, 97, 98, 99, 100, 101, 102, 103, 104, 105, 106, 107, 108, 109, 110, 111, 112, 113, 114, 115, 116, 117, 118, 119, 120, 121, 122] (wu64 (v64 - x74))) fun x76 =>
    chk (0 ≤ (w64 (v65 - 1)) ∧ (w64 (v65 - 1)) < (65 : Int)) <|
    lt (seti v66 (w64 (v65 - 1)) x76) fun q82 =>
    strconv_formatBits_L2 m base kk (wu64 (Int.tdiv v64 (wu64 base))) (w64 (v65 - 1)) q82) (
    some (v64, v65, v66))
def strconv_formatBits (m : Nat) (dst : List Int) (u_ : Int) (base : Int) (neg : Bool) (append_ : Bool) : Option ((List Int) × Str) :=
  lt (cond (decide (base < 2)) true (base == 10)) fun x3 =>
  cond (cond x3 true (decide (36 < base))) (
  none) (
  Option.bind (
  cond neg (
  some (wu64 (0 - u_))) (
  some u_)) fun (z11 : Int) =>
  Option.bind (
  cond (strconv_isPowerOfTwo base) (
  Option.bind (math_bits_TrailingZeros (wu64 base)) fun y20 =>
  Option.bind (
  strconv_formatBits_L1 m base y20 m z11 65 (List.replicate 65 (0 : Int))) fun (z27 : Int × Int × (List Int)) =>
  chk (0 ≤ z27.1 ∧ z27.1 < ln [48, 49, 50, 51, 52, 53, 54, 55, 56, 57, 97, 98, 99, 100, 101, 102, 103, 104, 105, 106, 107, 108, 109, 110, 111, 112, 113, 114, 115, 116, 117, 118, 119, 120, 121, 122]) <|
  lt (bat [48, 49, 50, 51, 52, 53, 54, 55, 56, 57, 97, 98, 99, 100, 101, 102, 103, 104, 105, 106, 107, 108, 109, 110, 111, 112, 113, 114, 115, 116, 117, 118, 119, 120, 121, 122] z27.1) fun x53 =>
  chk (0 ≤ (w64 (z27.2.1 - 1)) ∧ (w64 (z27.2.1 - 1)) < (65 : Int)) <|
  lt (seti z27.2.2 (w64 (z27.2.1 - 1)) x53) fun q59 =>
  some (w64 (z27.2.1 - 1), q59)) (
  Option.bind (
  strconv_formatBits_L2 m base m z11 65 (List.replicate 65 (0 : Int))) fun (z63 : Int × Int × (List Int)) =>
  chk (0 ≤ z63.1 ∧ z63.1 < ln [48, 49, 50, 51, 52, 53, 54, 55, 56, 57, 97, 98, 99, 100, 101, 102, 103, 104, 105, 106, 107, 108, 109, 110, 111, 112, 113, 114, 115, 116, 117, 118, 119, 120, 121, 122]) <|
  lt (bat [48, 49, 50, 51, 52, 53, 54, 55, 56, 57, 97, 98, 99, 100, 101, 102, 103, 104, 105, 106, 107, 108, 109, 110, 111, 112, 113, 114, 115, 116, 117, 118, 119, 120, 121, 122] z63.1) fun x90 =>
  chk (0 ≤ (w64 (z63.2.1 - 1)) ∧ (w64 (z63.2.1 - 1)) < (65 : Int)) <|
  lt (seti z63.2.2 (w64 (z63.2.1 - 1)) x90) fun q96 =>
  some (w64 (z63.2.1 - 1), q96))) fun (z17 : Int × (List Int)) =>
  Option.bind (
  cond neg (
  chk (0 ≤ (w64 (z17.1 - 1)) ∧ (w64 (z17.1 - 1)) < (65 : Int)) <|
  lt (seti z17.2 (w64 (z17.1 - 1)) 45) fun q109 =>
  some (w64 (z17.1 - 1), q109)) (
  some (z17.1, z17.2))) fun (z99 : Int × (List Int)) =>
  cond append_ (
  none) (
  chk (0 ≤ z99.1 ∧ z99.1 < (65 : Int)) <|
  some (([] : List Int), toB (z99.2.drop (z99.1).toNat))))
def strconv_FormatInt_2 (m : Nat) (i : Int) (base : Int) : Option (Str) :=
  cond (base == 10) (
  lt (cond (decide (0 ≤ i)) (decide (i < 100)) false) fun x5 =>
  cond x5 (
  Option.bind (strconv_small i) fun y8 =>
  some y8) (
  Option.bind (
  cond (decide (i < 0)) (
  some (wu64 (0 - (wu64 i)))) (
  some (wu64 i))) fun (z16 : Int) =>
  none)) (
  Option.bind (strconv_formatBits m [] (wu64 i) base (decide (i < 0)) false) fun y27 =>
  some y27.2)
def strconv_FormatInt (m : Nat) (i : Int) : Option (Str) :=
  Option.bind (strconv_FormatInt_2 m i 16) fun y3 =>
  some y3
def parseval_Shown_L1 (m : Nat) (c_ : TColor) : Nat → (List Str) → Int → Option (List Str)
  | 0, _, _ => none
  | kk + 1, v22, v24 =>
    cond (decide (v24 < (3 : Int))) (
    chk (0 ≤ v24 ∧ v24 < (3 : Int)) <|
    chk (0 ≤ v24 ∧ v24 < (4 : Int)) <|
    lt (gi [c_.Red, c_.Green, c_.Blue, c_.Alpha] v24) fun x29 =>
    Option.bind (x_Itoa (w64 x29)) fun y32 =>
    chk (ln v22 + ln ([y32] : List Str) ≤ 1099511627776) <|
    lt (v22 ++ ([y32] : List Str)) fun q40 =>
    parseval_Shown_L1 m c_ kk q40 (w64 (v24 + 1))) (
    some v22)
def parseval_Shown_L2 (m : Nat) (c_ : TColor) : Nat → Str → Int → Option (Str)
  | 0, _, _ => none
  | kk + 1, v64, v65 =>
    cond (decide (v65 < 4)) (
    chk (0 ≤ v65 ∧ v65 < (4 : Int)) <|
    lt (gi [c_.Red, c_.Green, c_.Blue, c_.Alpha] v65) fun x69 =>
    Option.bind (strconv_FormatInt m (w64 (256 + (w64 x69)))) fun y72 =>
    chk (0 ≤ (1 : Int) ∧ (1 : Int) ≤ ln y72) <|
    chk (ln v64 + ln (sub y72 1 (ln y72)) ≤ 9223372036854775807) <|
    parseval_Shown_L2 m c_ kk (v64 ++ (sub y72 1 (ln y72))) (w64 (v65 + 1))) (
    some v64)
def parseval_Shown (m : Nat) (c_ : TColor) : Option (Str) :=
  Option.bind (
  cond (c_.Alpha == 255) (
  Option.bind (
  parseval_Shown_L1 m c_ m ([] : List Str) 0) fun (z18 : List Str) =>
  Option.bind (strings_Join m z18 [44, 32]) fun y52 =>
  chk (ln [114, 103, 98, 40] + ln y52 ≤ 9223372036854775807) <|
  chk (ln ([114, 103, 98, 40] ++ y52) + ln [41] ≤ 9223372036854775807) <|
  some (.inl (([114, 103, 98, 40] ++ y52) ++ [41]))) (
  some (.inr ()))) fun (z13 : Sum (Str) (Unit)) => sumK z13 fun s_z13 =>
  Option.bind (
  parseval_Shown_L2 m c_ m [35] 0) fun (z61 : Str) =>
  some z61
def x_strings_TrimRight (x0 : Str) (x1 : Str) : Option Str := chk (ascB x1 = true ∧ x1.length < 4294967281 ∧ x0.length ≤ 9223372036854775807) (some (Lib.trimRightS x0 x1))
def parseval_number (n_ : Int) : Option (Str) :=
  Option.bind (
  cond (decide (n_ < 0)) (
  some (w64 (0 - n_), [45])) (
  some (n_, []))) fun (z5 : Int × Str) =>
  Option.bind (x_FormatInt10 (w64 (Int.tdiv z5.1 1000))) fun y11 =>
  Option.bind (
  cond (decide (0 < (Int.tmod z5.1 1000))) (
  Option.bind (x_FormatInt10 (w64 (1000 + (Int.tmod z5.1 1000)))) fun y19 =>
  chk (0 ≤ (1 : Int) ∧ (1 : Int) ≤ ln y19) <|
  Option.bind (x_strings_TrimRight (sub y19 1 (ln y19)) [48]) fun y21 =>
  chk (ln [46] + ln y21 ≤ 9223372036854775807) <|
  chk (ln y11 + ln ([46] ++ y21) ≤ 9223372036854775807) <|
  some (y11 ++ ([46] ++ y21))) (
  some y11)) fun (z14 : Str) =>
  chk (ln z5.2 + ln z14 ≤ 9223372036854775807) <|
  some (z5.2 ++ z14)
def parseval_Write (m : Nat) (v_ : TVal) : Option (Str × Int) :=
  Option.bind (props_Check v_) fun y6 =>
  cond (y6 != 0) (
  some ([], y6)) (
  Option.bind (
  Option.bind (
  cond (v_.Kind == 1) (
  some (.inl (.inl (v_.Word, 0)))) (
  cond (v_.Kind == 7) (
  Option.bind (parseval_Shown m v_.Color) fun y25 =>
  some (.inl (.inl (y25, 0)))) (
  cond (v_.Kind == 8) (
  some (.inl (.inl ([99, 117, 114, 114, 101, 110, 116, 99, 111, 108, 111, 114], 0)))) (
  cond (v_.Kind == 4) (
  some (.inr [114])) (
  cond (v_.Kind == 3) (
  some (.inr [])) (
  cond (v_.Kind == 2) (
  Option.bind (
  some (.inr ([112, 120], v_.Num))) fun r42 => some (.inl r42)) (
  cond (v_.Kind == 6) (
  Option.bind (
  some (.inr ([], w64 (v_.Num * 1000)))) fun r49 => some (.inl r49)) (
  Option.bind (
  some (.inr ([], v_.Num))) fun r50 => some (.inl r50))))))))) fun (z18 : Sum (Sum (Str × Int) (Str × Int)) (Str)) => sumK z18 fun s_z18 =>
  chk (ln s_z18 + ln [101, 109] ≤ 9223372036854775807) <|
  some (.inr (s_z18 ++ [101, 109], v_.Num))) fun (z15 : Sum (Str × Int) (Str × Int)) => sumK z15 fun s_z15 =>
  Option.bind (parseval_number s_z15.2) fun y62 =>
  chk (ln y62 + ln s_z15.1 ≤ 9223372036854775807) <|
  some (y62 ++ s_z15.1, 0))
def r25_Check (v_ : TVal) : Option (Int) :=
  Option.bind (
  cond (v_.Kind == 1) (
  cond (v_.Word == []) (
  some (.inl 8)) (
  some (.inr (1000000000000, v_.Word, 0, 0, 0, 0, 0)))) (
  Option.bind (
  cond (v_.Kind == 2) (
  some (v_.Kind == 2)) (
  cond (v_.Kind == 3) (
  some (v_.Kind == 3)) (
  cond (v_.Kind == 4) (
  some (v_.Kind == 4)) (
  some (v_.Kind == 5))))) fun (z29 : Bool) =>
  cond z29 (
  some (.inr (1000000000000, [], v_.Num, 0, 0, 0, 0))) (
  cond (v_.Kind == 6) (
  some (.inr (1000000000, [], v_.Num, 0, 0, 0, 0))) (
  cond (v_.Kind == 7) (
  some (.inr (1000000000000, [], 0, v_.Color.Red, v_.Color.Green, v_.Color.Blue, v_.Color.Alpha))) (
  cond (v_.Kind == 8) (
  some (.inr (1000000000000, [], 0, 0, 0, 0, 0))) (
  some (.inl 8))))))) fun (z15 : Sum (Int) (Int × Str × Int × Int × Int × Int × Int)) => sumK z15 fun s_z15 =>
  lt (!((v_.Kind == v_.Kind) && ((v_.Word == s_z15.2.1) && ((v_.Num == s_z15.2.2.1) && (((v_.Color.Red == s_z15.2.2.2.1) && ((v_.Color.Green == s_z15.2.2.2.2.1) && ((v_.Color.Blue == s_z15.2.2.2.2.2.1) && ((v_.Color.Alpha == s_z15.2.2.2.2.2.2) && true)))) && true))))) fun x69 =>
  lt (cond x69 true (decide (s_z15.1 < v_.Num))) fun x70 =>
  lt (cond x70 true (decide (v_.Num < (w64 (0 - s_z15.1))))) fun x71 =>
  cond x71 (
  some 8) (
  some 0)
def r26_whole_r (m : Nat) : Nat → Int → Option (Str)
  | 0, _ => none
  | k + 1, n_ =>
    cond (decide (n_ < 10)) (
    some (toB ([wu8 (w64 (48 + n_))] : List Int))) (
    Option.bind ((r26_whole_r m k) (w64 (Int.tdiv n_ 10))) fun y14 =>
    lt (toB ([wu8 (w64 (48 + (Int.tmod n_ 10)))] : List Int)) fun x17 =>
    chk (ln y14 + ln x17 ≤ 9223372036854775807) <|
    some (y14 ++ x17))
def r26_whole (m : Nat) (n_ : Int) : Option (Str) := r26_whole_r m  m n_
def r26_Thousandths_L1 (m : Nat)  : Nat → Str → Option (Str)
  | 0, _ => none
  | kk + 1, v21 =>
    chk (0 ≤ (w64 ((ln v21) - 1)) ∧ (w64 ((ln v21) - 1)) < ln v21) <|
    cond ((bat v21 (w64 ((ln v21) - 1))) == 48) (
    chk (0 ≤ (w64 ((ln v21) - 1)) ∧ (w64 ((ln v21) - 1)) ≤ ln v21) <|
    r26_Thousandths_L1 m  kk (sub v21 0 (w64 ((ln v21) - 1)))) (
    some v21)
def r26_Thousandths_r (m : Nat) : Nat → Int → Option (Str)
  | 0, _ => none
  | k + 1, n_ =>
    cond (decide (n_ < 0)) (
    Option.bind ((r26_Thousandths_r m k) (w64 (0 - n_))) fun y5 =>
    chk (ln [45] + ln y5 ≤ 9223372036854775807) <|
    some ([45] ++ y5)) (
    Option.bind (r26_whole m (w64 (Int.tdiv n_ 1000))) fun y9 =>
    cond ((Int.tmod n_ 1000) == 0) (
    some y9) (
    Option.bind (r26_whole m (w64 (1000 + (Int.tmod n_ 1000)))) fun y16 =>
    chk (0 ≤ (1 : Int) ∧ (1 : Int) ≤ ln y16) <|
    Option.bind (
    r26_Thousandths_L1 m  m (sub y16 1 (ln y16))) fun (z20 : Str) =>
    chk (ln y9 + ln [46] ≤ 9223372036854775807) <|
    chk (ln (y9 ++ [46]) + ln z20 ≤ 9223372036854775807) <|
    some ((y9 ++ [46]) ++ z20)))
def r26_Thousandths (m : Nat) (n_ : Int) : Option (Str) := r26_Thousandths_r m  m n_
def r26_two (n_ : Int) : Option (Str) :=
  chk (0 ≤ (wu8 (Int.tdiv n_ 16)) ∧ (wu8 (Int.tdiv n_ 16)) ≤ (wu8 ((wu8 (Int.tdiv n_ 16)) + 1)) ∧ (wu8 ((wu8 (Int.tdiv n_ 16)) + 1)) ≤ ln [48, 49, 50, 51, 52, 53, 54, 55, 56, 57, 97, 98, 99, 100, 101, 102]) <|
  lt (sub [48, 49, 50, 51, 52, 53, 54, 55, 56, 57, 97, 98, 99, 100, 101, 102] (wu8 (Int.tdiv n_ 16)) (wu8 ((wu8 (Int.tdiv n_ 16)) + 1))) fun x4 =>
  chk (0 ≤ (Int.tmod n_ 16) ∧ (Int.tmod n_ 16) ≤ (wu8 ((Int.tmod n_ 16) + 1)) ∧ (wu8 ((Int.tmod n_ 16) + 1)) ≤ ln [48, 49, 50, 51, 52, 53, 54, 55, 56, 57, 97, 98, 99, 100, 101, 102]) <|
  lt (sub [48, 49, 50, 51, 52, 53, 54, 55, 56, 57, 97, 98, 99, 100, 101, 102] (Int.tmod n_ 16) (wu8 ((Int.tmod n_ 16) + 1))) fun x6 =>
  chk (ln x4 + ln x6 ≤ 9223372036854775807) <|
  some (x4 ++ x6)
def r26_Shown (m : Nat) (c_ : TColor) : Option (Str) :=
  cond (c_.Alpha == 255) (
  Option.bind (r26_whole m (w64 c_.Red)) fun y8 =>
  chk (ln [114, 103, 98, 40] + ln y8 ≤ 9223372036854775807) <|
  chk (ln ([114, 103, 98, 40] ++ y8) + ln [44, 32] ≤ 9223372036854775807) <|
  Option.bind (r26_whole m (w64 c_.Green)) fun y11 =>
  chk (ln (([114, 103, 98, 40] ++ y8) ++ [44, 32]) + ln y11 ≤ 9223372036854775807) <|
  lt ((([114, 103, 98, 40] ++ y8) ++ [44, 32]) ++ y11) fun x13 =>
  chk (ln x13 + ln [44, 32] ≤ 9223372036854775807) <|
  Option.bind (r26_whole m (w64 c_.Blue)) fun y15 =>
  chk (ln (x13 ++ [44, 32]) + ln y15 ≤ 9223372036854775807) <|
  chk (ln ((x13 ++ [44, 32]) ++ y15) + ln [41] ≤ 9223372036854775807) <|
  some (((x13 ++ [44, 32]) ++ y15) ++ [41])) (
  Option.bind (r26_two c_.Red) fun y20 =>
  chk (ln [35] + ln y20 ≤ 9223372036854775807) <|
  Option.bind (r26_two c_.Green) fun y22 =>
  chk (ln ([35] ++ y20) + ln y22 ≤ 9223372036854775807) <|
  Option.bind (r26_two c_.Blue) fun y24 =>
  chk (ln (([35] ++ y20) ++ y22) + ln y24 ≤ 9223372036854775807) <|
  Option.bind (r26_two c_.Alpha) fun y26 =>
  chk (ln ((([35] ++ y20) ++ y22) ++ y24) + ln y26 ≤ 9223372036854775807) <|
  some (((([35] ++ y20) ++ y22) ++ y24) ++ y26))
def r26_Text (m : Nat) (v_ : TVal) : Option (Str) :=
  cond (v_.Kind == 1) (
  some v_.Word) (
  cond (v_.Kind == 2) (
  Option.bind (r26_Thousandths m v_.Num) fun y14 =>
  chk (ln y14 + ln [112, 120] ≤ 9223372036854775807) <|
  some (y14 ++ [112, 120])) (
  cond (v_.Kind == 3) (
  Option.bind (r26_Thousandths m v_.Num) fun y20 =>
  chk (ln y20 + ln [101, 109] ≤ 9223372036854775807) <|
  some (y20 ++ [101, 109])) (
  cond (v_.Kind == 4) (
  Option.bind (r26_Thousandths m v_.Num) fun y26 =>
  chk (ln y26 + ln [114, 101, 109] ≤ 9223372036854775807) <|
  some (y26 ++ [114, 101, 109])) (
  cond (v_.Kind == 5) (
  Option.bind (r26_Thousandths m v_.Num) fun y32 =>
  some y32) (
  cond (v_.Kind == 6) (
  Option.bind (r26_Thousandths m (w64 (1000 * v_.Num))) fun y37 =>
  some y37) (
  cond (v_.Kind == 7) (
  Option.bind (r26_Shown m v_.Color) fun y42 =>
  some y42) (
  some [99, 117, 114, 114, 101, 110, 116, 99, 111, 108, 111, 114])))))))
def r26_Write (m : Nat) (v_ : TVal) : Option (Str × Int) :=
  Option.bind (r25_Check v_) fun y6 =>
  cond (y6 != 0) (
  some ([], y6)) (
  Option.bind (r26_Text m v_) fun y13 =>
  some (y13, 0))
def parseval_opaque (r_ : Int) (g_ : Int) (b_ : Int) : TColor :=
  (TColor.mk r_ g_ b_ 255)
def parseval_small_L1 (m : Nat) (s : Str) : Nat → Int → (List Int) → Option (List Int)
  | 0, _, _ => none
  | kk + 1, v14, v15 =>
    cond (decide (v14 < (ln (ofB s)))) (
    Option.bind (
    chk (0 ≤ v14 ∧ v14 < ln (ofB s)) <|
    lt (cond (decide (65 ≤ (gi v15 v14))) (decide ((gi v15 v14) ≤ 90)) false) fun x22 =>
    cond x22 (
    lt (seti v15 v14 (wu8 ((wu8 ((gi v15 v14) + 97)) - 65))) fun q29 =>
    some q29) (
    some v15)) fun (z18 : List Int) =>
    parseval_small_L1 m s kk (w64 (v14 + 1)) z18) (
    some v15)
def parseval_small (m : Nat) (s : Str) : Option (Str) :=
  Option.bind (
  parseval_small_L1 m s m 0 (ofB s)) fun (z11 : List Int) =>
  some (toB z11)
def parseval_Named (m : Nat) (name_ : Str) : Option (TColor × Int) :=
  lt (parseval_opaque 0 0 0) fun y9 =>
  lt (parseval_opaque 255 255 255) fun y14 =>
  lt (parseval_opaque 255 0 0) fun y19 =>
  lt (parseval_opaque 0 255 0) fun y24 =>
  lt (parseval_opaque 0 0 255) fun y29 =>
  lt (parseval_opaque 255 255 0) fun y34 =>
  lt (parseval_opaque 128 128 128) fun y39 =>
  Option.bind (parseval_small m name_) fun y48 =>
  lt (x_key ([[98, 108, 97, 99, 107], [119, 104, 105, 116, 101], [114, 101, 100], [108, 105, 109, 101], [98, 108, 117, 101], [121, 101, 108, 108, 111, 119], [103, 114, 97, 121], [116, 114, 97, 110, 115, 112, 97, 114, 101, 110, 116]] : List Str) y48) fun x51 =>
  lt (gi ([y9.Red, y14.Red, y19.Red, y24.Red, y29.Red, y34.Red, y39.Red, 0, 0] : List Int) x51) fun x54 =>
  lt (gi ([y9.Green, y14.Green, y19.Green, y24.Green, y29.Green, y34.Green, y39.Green, 0, 0] : List Int) x51) fun x55 =>
  lt (gi ([y9.Blue, y14.Blue, y19.Blue, y24.Blue, y29.Blue, y34.Blue, y39.Blue, 0, 0] : List Int) x51) fun x56 =>
  lt (gi ([y9.Alpha, y14.Alpha, y19.Alpha, y24.Alpha, y29.Alpha, y34.Alpha, y39.Alpha, 0, 0] : List Int) x51) fun x57 =>
  cond (!(decide (x51 < 8))) (
  some ((TColor.mk 0 0 0 0), 6)) (
  some ((TColor.mk x54 x55 x56 x57), 0))
def r26_names  : List Str :=
  ([[98, 108, 97, 99, 107], [119, 104, 105, 116, 101], [114, 101, 100], [108, 105, 109, 101], [98, 108, 117, 101], [121, 101, 108, 108, 111, 119], [103, 114, 97, 121], [116, 114, 97, 110, 115, 112, 97, 114, 101, 110, 116]] : List Str)
def r26_colors  : List TColor :=
  ([(TColor.mk 0 0 0 255), (TColor.mk 255 255 255 255), (TColor.mk 255 0 0 255), (TColor.mk 0 255 0 255), (TColor.mk 0 0 255 255), (TColor.mk 255 255 0 255), (TColor.mk 128 128 128 255), (TColor.mk 0 0 0 0)] : List TColor)
def r26_Small_L1 (m : Nat) (s : Str) : Nat → Int → (List Int) → Option (List Int)
  | 0, _, _ => none
  | kk + 1, v14, v15 =>
    cond (decide (v14 < (ln (ofB s)))) (
    Option.bind (
    chk (0 ≤ v14 ∧ v14 < ln (ofB s)) <|
    lt (cond (decide (65 ≤ (gi v15 v14))) (decide ((gi v15 v14) ≤ 90)) false) fun x20 =>
    cond x20 (
    lt (seti v15 v14 (wu8 ((gi v15 v14) + 32))) fun q27 =>
    some q27) (
    some v15)) fun (z18 : List Int) =>
    r26_Small_L1 m s kk (w64 (v14 + 1)) z18) (
    some v15)
def r26_Small (m : Nat) (s : Str) : Option (Str) :=
  Option.bind (
  r26_Small_L1 m s m 0 (ofB s)) fun (z11 : List Int) =>
  some (toB z11)
def r26_Named_L1 (m : Nat) (s : Str) (y6 : List Str) (y11 : List TColor) : Nat → Int → Option (Sum (TColor × Int) (Unit))
  | 0, _ => none
  | kk + 1, v21 =>
    cond (decide (v21 < (ln y6))) (
    chk (0 ≤ v21 ∧ v21 < ln y6) <|
    Option.bind (r26_Small m s) fun y25 =>
    cond ((gi y6 v21) == y25) (
    chk (0 ≤ v21 ∧ v21 < ln y11) <|
    some (.inl ((gi y11 v21), 0))) (
    r26_Named_L1 m s y6 y11 kk (w64 (v21 + 1)))) (
    some (.inr ()))
def r26_Named (m : Nat) (s : Str) : Option (TColor × Int) :=
  lt (r26_names) fun y6 =>
  lt (r26_colors) fun y11 =>
  Option.bind (
  r26_Named_L1 m s y6 y11 m 0) fun (z18 : Sum (TColor × Int) (Unit)) => sumK z18 fun s_z18 =>
  some ((TColor.mk 0 0 0 0), 6)
def law26_ParsevalWrites (m : Nat) (v_ : TVal) (c_ : TColor) (name_ : Str) : Option (Bool) :=
  lt (cond (decide (200 < (ln v_.Word))) true (decide (200 < (ln name_)))) fun x9 =>
  cond x9 (
  some true) (
  Option.bind (parseval_Write m v_) fun y14 =>
  Option.bind (r26_Write m v_) fun y17 =>
  Option.bind (parseval_Named m name_) fun y20 =>
  Option.bind (r26_Named m name_) fun y30 =>
  lt (cond (y14.1 == y17.1) (y14.2 == y17.2) false) fun x40 =>
  lt (cond x40 ((y20.1.Red == y30.1.Red) && ((y20.1.Green == y30.1.Green) && ((y20.1.Blue == y30.1.Blue) && ((y20.1.Alpha == y30.1.Alpha) && true)))) false) fun x41 =>
  Option.bind (cond (cond x41 (y20.2 == y30.2) false) (parseval_Shown m c_) (some default)) fun y42 =>
  Option.bind (cond (cond x41 (y20.2 == y30.2) false) (r26_Shown m c_) (some default)) fun y43 =>
  lt (cond (cond x41 (y20.2 == y30.2) false) (y42 == y43) false) fun x44 =>
  some x44)
end Go.Proofs.YtemchjneoalnoaaDoor

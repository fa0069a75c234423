/-
  What the Go functions compute, as Lean functions, and that a call returns just that. Printed by a program.
-/
import Derived.Test.YtipafpkdkhnjmaaDoorRows
import Derived.Test.YtipafpkdkhnjmaaDoorVP
import Derived.Test.YtipafpkdkhnjmaaDoorA
import Derived.Test.YtipafpkdkhnjmaaDoorIA
import Derived.Test.YtipafpkdkhnjmaaDoorRN
set_option linter.unusedVariables false
set_option maxRecDepth 20000
set_option maxHeartbeats 4000000
namespace Go.Proofs.YtipafpkdkhnjmaaDoor
open Go.V Go.RowKit
structure TAnswer where
  Err : Int
  Num : Int
  Texts : List Str
  Numbers : List Int
instance : Inhabited TAnswer := ⟨⟨default, default, default, default⟩⟩
def answer_Check_L1 (m : Nat) (a_ : TAnswer) : Nat → Int → Int → Option (Int)
  | 0, _, _ => none
  | kk + 1, v11, v12 =>
    cond (decide (v12 < (ln a_.Texts))) (
    chk (0 ≤ v12 ∧ v12 < ln a_.Texts) <|
    answer_Check_L1 m a_ kk (w64 (v11 + (ln (gi a_.Texts v12)))) (w64 (v12 + 1))) (
    some v11)
def answer_Check (m : Nat) (a_ : TAnswer) : Option (Int) :=
  Option.bind (
  answer_Check_L1 m a_ m 0 0) fun (z8 : Int) =>
  lt (cond (decide (a_.Err < 0)) true (decide (99 < a_.Err))) fun x24 =>
  lt (cond x24 true (decide (64 < (ln a_.Texts)))) fun x25 =>
  lt (cond (cond x25 true (decide (20000 < z8))) true (decide (64 < (ln a_.Numbers)))) fun x26 =>
  cond x26 (
  some 8) (
  some 0)
def answer_quote_L1 (m : Nat) (s : Str) : Nat → Int → Str → Option (Str)
  | 0, _, _ => none
  | kk + 1, v14, v15 =>
    cond (decide (v14 < (ln s))) (
    Option.bind (
    chk (0 ≤ v14 ∧ v14 < ln s) <|
    Option.bind (
    cond ((bat s v14) == 10) (
    chk (ln v15 + ln [92, 110] ≤ 1099511627776) <|
    lt (v15 ++ [92, 110]) fun q29 =>
    Option.bind (
    some q29) fun r33 => some (.inl r33)) (
    lt (cond (decide ((bat s v14) < 32)) true (decide (126 < (bat s v14)))) fun x34 =>
    cond x34 (
    chk (ln v15 + ln [92, 120] ≤ 1099511627776) <|
    lt (v15 ++ [92, 120]) fun q38 =>
    chk (0 ≤ (Int.fdiv (bat s v14) (2 ^ 4)) ∧ (Int.fdiv (bat s v14) (2 ^ 4)) < ln [48, 49, 50, 51, 52, 53, 54, 55, 56, 57, 97, 98, 99, 100, 101, 102]) <|
    lt (bat [48, 49, 50, 51, 52, 53, 54, 55, 56, 57, 97, 98, 99, 100, 101, 102] (Int.fdiv (bat s v14) (2 ^ 4))) fun x43 =>
    chk (0 ≤ x43 ∧ x43 < 256) <|
    chk (ln q38 + 1 ≤ 1099511627776) <|
    lt (q38 ++ toB [x43]) fun q48 =>
    chk (0 ≤ (ibit .and .u8 (bat s v14) 15) ∧ (ibit .and .u8 (bat s v14) 15) < ln [48, 49, 50, 51, 52, 53, 54, 55, 56, 57, 97, 98, 99, 100, 101, 102]) <|
    lt (bat [48, 49, 50, 51, 52, 53, 54, 55, 56, 57, 97, 98, 99, 100, 101, 102] (ibit .and .u8 (bat s v14) 15)) fun x53 =>
    chk (0 ≤ x53 ∧ x53 < 256) <|
    chk (ln q48 + 1 ≤ 1099511627776) <|
    lt (q48 ++ toB [x53]) fun q58 =>
    Option.bind (
    some q58) fun r62 => some (.inl r62)) (
    lt (cond ((bat s v14) == 34) true ((bat s v14) == 92)) fun x63 =>
    cond x63 (
    chk (ln v15 + 1 ≤ 1099511627776) <|
    lt (v15 ++ toB [92]) fun q67 =>
    some (.inr q67)) (
    some (.inr v15))))) fun (z25 : Sum (Str) (Str)) => sumK z25 fun s_z25 =>
    chk (0 ≤ (bat s v14) ∧ (bat s v14) < 256) <|
    chk (ln s_z25 + 1 ≤ 1099511627776) <|
    lt (s_z25 ++ toB [bat s v14]) fun q79 =>
    some q79) fun (z19 : Str) =>
    answer_quote_L1 m s kk (w64 (v14 + 1)) z19) (
    some v15)
def answer_quote (m : Nat) (s : Str) : Option (Str) :=
  chk (ln ([] : Str) + 1 ≤ 1099511627776) <|
  lt (([] : Str) ++ toB [34]) fun q7 =>
  Option.bind (
  answer_quote_L1 m s m 0 q7) fun (z11 : Str) =>
  chk (ln z11 + 1 ≤ 1099511627776) <|
  lt (z11 ++ toB [34]) fun q92 =>
  some q92
def strings_Join_L1 (m : Nat) (elems : List Str) : Nat → Int → Int → Option (Int)
  | 0, _, _ => none
  | kk + 1, v31, v32 =>
    cond (decide (v32 < (ln elems))) (
    chk (0 ≤ v32 ∧ v32 < ln elems) <|
    lt (decide ((w64 (9223372036854775807 - v31)) < (ln (gi elems v32)))) fun x38 =>
    cond x38 (
    none) (
    strings_Join_L1 m elems kk (w64 (v31 + (ln (gi elems v32)))) (w64 (v32 + 1)))) (
    some v31)
def strings_Join_L2 (m : Nat) (sep : Str) (q69 : List Str) : Nat → Int → Str → Option (Str)
  | 0, _, _ => none
  | kk + 1, v76, v77 =>
    cond (decide (v76 < (ln q69))) (
    chk (0 ≤ v76 ∧ v76 < ln q69) <|
    chk (ln v77 + ln sep ≤ 1099511627776) <|
    lt (v77 ++ sep) fun q87 =>
    chk (ln q87 + ln (gi q69 v76) ≤ 1099511627776) <|
    lt (q87 ++ (gi q69 v76)) fun q94 =>
    strings_Join_L2 m sep q69 kk (w64 (v76 + 1)) q94) (
    some v77)
def strings_Join (m : Nat) (elems : List Str) (sep : Str) : Option (Str) :=
  cond ((ln elems) == 0) (
  some []) (
  cond ((ln elems) == 1) (
  chk (0 ≤ (0 : Int) ∧ (0 : Int) < ln elems) <|
  some (gi elems (0 : Int))) (
  Option.bind (
  cond (decide (0 < (ln sep))) (
  chk ((w64 ((ln elems) - 1)) ≠ 0) <|
  lt (w64 (Int.tdiv 9223372036854775807 (w64 ((ln elems) - 1)))) fun x20 =>
  cond (decide (x20 ≤ (ln sep))) (
  none) (
  lt (w64 (0 + (w64 ((ln sep) * (w64 ((ln elems) - 1)))))) fun x23 =>
  some x23)) (
  some 0)) fun (z16 : Int) =>
  Option.bind (
  strings_Join_L1 m elems m z16 0) fun (z28 : Int) =>
  chk (0 ≤ z28 ∧ z28 ≤ 281474976710656) <|
  chk (0 ≤ (0 : Int) ∧ (0 : Int) < ln elems) <|
  chk (ln ([] : Str) + ln (gi elems (0 : Int)) ≤ 1099511627776) <|
  lt (([] : Str) ++ (gi elems (0 : Int))) fun q61 =>
  Option.bind (
  chk (0 ≤ (1 : Int) ∧ (1 : Int) ≤ (ln elems) ∧ (ln elems) ≤ ln elems) <|
  lt (subl elems (1 : Int) (ln elems)) fun q69 =>
  strings_Join_L2 m sep q69 m 0 q61) fun (z65 : Str) =>
  some z65))
def answer_list (m : Nat) (l_ : List Str) : Option (Str) :=
  Option.bind (strings_Join m l_ [44, 32]) fun y3 =>
  chk (ln [91] + ln y3 ≤ 9223372036854775807) <|
  chk (ln ([91] ++ y3) + ln [93] ≤ 9223372036854775807) <|
  some (([91] ++ y3) ++ [93])
def answer_Line_L1 (m : Nat) (a_ : TAnswer) : Nat → (List Str) → Int → Option (List Str)
  | 0, _, _ => none
  | kk + 1, v19, v21 =>
    cond (decide (v21 < (ln a_.Texts))) (
    chk (0 ≤ v21 ∧ v21 < ln a_.Texts) <|
    Option.bind (answer_quote m (gi a_.Texts v21)) fun y27 =>
    chk (ln v19 + ln ([y27] : List Str) ≤ 1099511627776) <|
    lt (v19 ++ ([y27] : List Str)) fun q35 =>
    answer_Line_L1 m a_ kk q35 (w64 (v21 + 1))) (
    some v19)
def answer_Line_L2 (m : Nat) (a_ : TAnswer) : Nat → (List Str) → Int → Option (List Str)
  | 0, _, _ => none
  | kk + 1, v51, v53 =>
    cond (decide (v53 < (ln a_.Numbers))) (
    chk (0 ≤ v53 ∧ v53 < ln a_.Numbers) <|
    Option.bind (x_Itoa (gi a_.Numbers v53)) fun y59 =>
    chk (ln v51 + ln ([y59] : List Str) ≤ 1099511627776) <|
    lt (v51 ++ ([y59] : List Str)) fun q67 =>
    answer_Line_L2 m a_ kk q67 (w64 (v53 + 1))) (
    some v51)
def answer_Line (m : Nat) (a_ : TAnswer) : Option (Str × Int) :=
  Option.bind (answer_Check m a_) fun y6 =>
  cond (y6 != 0) (
  some ([], y6)) (
  Option.bind (
  answer_Line_L1 m a_ m ([] : List Str) 0) fun (z15 : List Str) =>
  Option.bind (
  answer_Line_L2 m a_ m ([] : List Str) 0) fun (z47 : List Str) =>
  Option.bind (x_Itoa a_.Err) fun y80 =>
  Option.bind (x_Itoa a_.Num) fun y81 =>
  Option.bind (answer_list m z15) fun y82 =>
  Option.bind (answer_list m z47) fun y83 =>
  Option.bind (strings_Join m ([y80, y81, y82, y83] : List Str) [32]) fun y86 =>
  some (y86, 0))
def x_strings_IndexAny (x0 : Str) (x1 : Str) : Option Int := chk (x1 = [32, 44, 93] ∧ x0.length < 4294967281) (some (Lib.indexAny x0 x1))
def answer_read_2 (u0 : Str) : Option (Int × Bool × Str) :=
  Option.bind (x_strings_IndexAny u0 [32, 44, 93]) fun y3 =>
  cond (decide (y3 < 0)) (
  some (0, false, u0)) (
  chk (0 ≤ y3 ∧ y3 ≤ ln u0) <|
  Option.bind (x_Atoi (sub u0 0 y3)) fun y13 =>
  cond y13.2 (
  some (y13.1, true, sub u0 y3 (ln u0))) (
  some (y13.1, false, sub u0 y3 (ln u0))))
def stringslite_HasPrefix (s : Str) (prefix_ : Str) : Option (Bool) :=
  chk ((decide ((ln prefix_) ≤ (ln s))) = true → 0 ≤ (ln prefix_) ∧ (ln prefix_) ≤ ln s) <|
  lt (cond (decide ((ln prefix_) ≤ (ln s))) ((sub s 0 (ln prefix_)) == prefix_) false) fun x4 =>
  some x4
def stringslite_CutPrefix (s : Str) (prefix_ : Str) : Option (Str × Bool) :=
  Option.bind (stringslite_HasPrefix s prefix_) fun y3 =>
  cond (!y3) (
  some (s, false)) (
  chk (0 ≤ (ln prefix_) ∧ (ln prefix_) ≤ ln s) <|
  some (sub s (ln prefix_) (ln s), true))
def strings_CutPrefix (s : Str) (prefix_ : Str) : Option (Str × Bool) :=
  Option.bind (stringslite_CutPrefix s prefix_) fun y3 =>
  some (y3.1, y3.2)
def answer_read_1 (what : Str) (u0 : Str) : Option (Bool × Str) :=
  Option.bind (strings_CutPrefix u0 what) fun y3 =>
  some (y3.2, y3.1)
def strings_HasPrefix (s : Str) (prefix_ : Str) : Option (Bool) :=
  Option.bind (stringslite_HasPrefix s prefix_) fun y3 =>
  some y3
def stringslite_IndexByte (s : Str) (c_ : Int) : Int :=
  (nIndexByte s c_)
def strings_IndexByte (s : Str) (c_ : Int) : Int :=
  (stringslite_IndexByte s c_)
def answer_hex (c_ : Int) : Int :=
  lt (strings_IndexByte [48, 49, 50, 51, 52, 53, 54, 55, 56, 57, 97, 98, 99, 100, 101, 102] c_) fun y3 =>
  y3
def answer_unquote_L1 (m : Nat) (s : Str) : Nat → (List Int) → Int → Option (Sum (Str × Int) (Unit))
  | 0, _, _ => none
  | kk + 1, v9, v11 =>
    cond (decide (v11 < (ln s))) (
    Option.bind (
    chk (0 ≤ v11 ∧ v11 < ln s) <|
    cond ((bat s v11) == 34) (
    some (.inl (.inl (toB v9, w64 (v11 + 1))))) (
    cond ((bat s v11) != 92) (
    chk (ln v9 + ln ([bat s v11] : List Int) ≤ 1099511627776) <|
    lt (v9 ++ ([bat s v11] : List Int)) fun q29 =>
    some (.inr (v11, q29))) (
    chk (0 ≤ v11 ∧ v11 ≤ ln s) <|
    Option.bind (strings_HasPrefix (sub s v11 (ln s)) [92, 110]) fun y36 =>
    cond y36 (
    chk (ln v9 + ln ([10] : List Int) ≤ 1099511627776) <|
    lt (v9 ++ ([10] : List Int)) fun q46 =>
    some (.inr (w64 (v11 + 1), q46))) (
    Option.bind (strings_HasPrefix (sub s v11 (ln s)) [92, 120]) fun y54 =>
    lt (cond y54 (decide ((w64 (v11 + 3)) < (ln s))) false) fun x55 =>
    cond x55 (
    chk (0 ≤ (w64 (v11 + 2)) ∧ (w64 (v11 + 2)) < ln s) <|
    chk (0 ≤ (w64 (v11 + 3)) ∧ (w64 (v11 + 3)) < ln s) <|
    lt (decide ((answer_hex (bat s (w64 (v11 + 2)))) < 0)) fun x62 =>
    lt (cond x62 true (decide ((answer_hex (bat s (w64 (v11 + 3)))) < 0))) fun x63 =>
    cond x63 (
    some (.inl (.inl ([], 0)))) (
    lt (w64 ((answer_hex (bat s (w64 (v11 + 2)))) * 2 ^ 4)) fun x68 =>
    lt (ibit .or .i64 x68 (answer_hex (bat s (w64 (v11 + 3))))) fun x69 =>
    chk (ln v9 + ln ([wu8 x69] : List Int) ≤ 1099511627776) <|
    lt (v9 ++ ([wu8 x69] : List Int)) fun q77 =>
    some (.inr (w64 (v11 + 3), q77)))) (
    cond (decide ((w64 (v11 + 1)) < (ln s))) (
    chk (0 ≤ (w64 (v11 + 1)) ∧ (w64 (v11 + 1)) < ln s) <|
    chk (ln v9 + ln ([bat s (w64 (v11 + 1))] : List Int) ≤ 1099511627776) <|
    lt (v9 ++ ([bat s (w64 (v11 + 1))] : List Int)) fun q96 =>
    some (.inr (w64 (v11 + 1), q96))) (
    some (.inr (v11, v9)))))))) fun (z14 : Sum (Sum (Str × Int) (Unit)) (Int × (List Int))) => sumK z14 fun s_z14 =>
    answer_unquote_L1 m s kk s_z14.2 (w64 (s_z14.1 + 1))) (
    some (.inr ()))
def answer_unquote (m : Nat) (s : Str) : Option (Str × Int) :=
  Option.bind (
  answer_unquote_L1 m s m ([] : List Int) 0) fun (z5 : Sum (Str × Int) (Unit)) => sumK z5 fun s_z5 =>
  some ([], 0)
def answer_read_4 (m : Nat) (u0_c0 : Str) (u2_Err : Int) (u2_Num : Int) (u2_Texts : List Str) (u2_Numbers : List Int) : Option (Bool × Str × (List Str)) :=
  Option.bind (answer_read_1 [34] u0_c0) fun y5 =>
  cond (!y5.1) (
  some (false, y5.2, u2_Texts)) (
  Option.bind (answer_unquote m y5.2) fun y12 =>
  chk (ln u2_Texts + ln ([y12.1] : List Str) ≤ 1099511627776) <|
  lt (u2_Texts ++ ([y12.1] : List Str)) fun q22 =>
  chk (0 ≤ y12.2 ∧ y12.2 ≤ ln y5.2) <|
  some (decide (0 < y12.2), sub y5.2 y12.2 (ln y5.2), q22))
def answer_read_3_L1 (m : Nat) (one_c2_Err : Int) (one_c2_Num : Int) (one_c2_Numbers : List Int) : Nat → Bool → Str → (List Str) → Option (Sum (Bool × Str × (List Str)) (Str × (List Str)))
  | 0, _, _, _ => none
  | kk + 1, v15, v16, v17 =>
    Option.bind (answer_read_1 [93] v16) fun y21 =>
    cond (!y21.1) (
    Option.bind (
    lt (!v15) fun x27 =>
    cond x27 (
    Option.bind (answer_read_1 [44, 32] y21.2) fun y32 =>
    lt (!y32.1) fun x35 =>
    cond x35 (
    some (true, y32.2, v17)) (
    Option.bind (answer_read_4 m y32.2 one_c2_Err one_c2_Num v17 one_c2_Numbers) fun y45 =>
    some (!y45.1, y45.2.1, y45.2.2))) (
    Option.bind (answer_read_4 m y21.2 one_c2_Err one_c2_Num v17 one_c2_Numbers) fun y57 =>
    some (!y57.1, y57.2.1, y57.2.2))) fun (z26 : Bool × Str × (List Str)) =>
    cond z26.1 (
    some (.inl (false, z26.2.1, z26.2.2))) (
    answer_read_3_L1 m one_c2_Err one_c2_Num one_c2_Numbers kk false z26.2.1 z26.2.2)) (
    some (.inr (y21.2, v17)))
def answer_read_3 (m : Nat) (one_c0_c0 : Str) (one_c2_Err : Int) (one_c2_Num : Int) (one_c2_Texts : List Str) (one_c2_Numbers : List Int) : Option (Bool × Str × (List Str)) :=
  Option.bind (answer_read_1 [91] one_c0_c0) fun y5 =>
  cond (!y5.1) (
  some (false, y5.2, one_c2_Texts)) (
  Option.bind (
  answer_read_3_L1 m one_c2_Err one_c2_Num one_c2_Numbers m true y5.2 one_c2_Texts) fun (z12 : Sum (Bool × Str × (List Str)) (Str × (List Str))) => sumK z12 fun s_z12 =>
  some (true, s_z12.1, s_z12.2))
def answer_read_5 (u0_c0 : Str) (u1_Err : Int) (u1_Num : Int) (u1_Texts : List Str) (u1_Numbers : List Int) : Option (Bool × Str × (List Int)) :=
  Option.bind (answer_read_2 u0_c0) fun y5 =>
  chk (ln u1_Numbers + ln ([y5.1] : List Int) ≤ 1099511627776) <|
  lt (u1_Numbers ++ ([y5.1] : List Int)) fun q17 =>
  some (y5.2.1, y5.2.2, q17)
def answer_read_3_2_L1 (m : Nat) (one_c1_Err : Int) (one_c1_Num : Int) (one_c1_Texts : List Str) : Nat → Bool → Str → (List Int) → Option (Sum (Bool × Str × (List Int)) (Str × (List Int)))
  | 0, _, _, _ => none
  | kk + 1, v15, v16, v17 =>
    Option.bind (answer_read_1 [93] v16) fun y21 =>
    cond (!y21.1) (
    Option.bind (
    lt (!v15) fun x27 =>
    cond x27 (
    Option.bind (answer_read_1 [44, 32] y21.2) fun y32 =>
    lt (!y32.1) fun x35 =>
    cond x35 (
    some (true, y32.2, v17)) (
    Option.bind (answer_read_5 y32.2 one_c1_Err one_c1_Num one_c1_Texts v17) fun y45 =>
    some (!y45.1, y45.2.1, y45.2.2))) (
    Option.bind (answer_read_5 y21.2 one_c1_Err one_c1_Num one_c1_Texts v17) fun y57 =>
    some (!y57.1, y57.2.1, y57.2.2))) fun (z26 : Bool × Str × (List Int)) =>
    cond z26.1 (
    some (.inl (false, z26.2.1, z26.2.2))) (
    answer_read_3_2_L1 m one_c1_Err one_c1_Num one_c1_Texts kk false z26.2.1 z26.2.2)) (
    some (.inr (y21.2, v17)))
def answer_read_3_2 (m : Nat) (one_c0_c0 : Str) (one_c1_Err : Int) (one_c1_Num : Int) (one_c1_Texts : List Str) (one_c1_Numbers : List Int) : Option (Bool × Str × (List Int)) :=
  Option.bind (answer_read_1 [91] one_c0_c0) fun y5 =>
  cond (!y5.1) (
  some (false, y5.2, one_c1_Numbers)) (
  Option.bind (
  answer_read_3_2_L1 m one_c1_Err one_c1_Num one_c1_Texts m true y5.2 one_c1_Numbers) fun (z12 : Sum (Bool × Str × (List Int)) (Str × (List Int))) => sumK z12 fun s_z12 =>
  some (true, s_z12.1, s_z12.2))
def answer_read (m : Nat) (s : Str) : Option (TAnswer × Bool) :=
  Option.bind (answer_read_2 s) fun y34 =>
  Option.bind (
  lt (!y34.2.1) fun x40 =>
  cond x40 (
  some (true, y34.2.2)) (
  Option.bind (answer_read_1 [32] y34.2.2) fun y50 =>
  some (!y50.1, y50.2))) fun (z39 : Bool × Str) =>
  cond z39.1 (
  some ((TAnswer.mk 0 0 ([] : List Str) ([] : List Int)), false)) (
  Option.bind (answer_read_2 z39.2) fun y69 =>
  Option.bind (
  lt (!y69.2.1) fun x79 =>
  cond x79 (
  some (true, y69.2.2)) (
  Option.bind (answer_read_1 [32] y69.2.2) fun y89 =>
  some (!y89.1, y89.2))) fun (z78 : Bool × Str) =>
  cond z78.1 (
  some ((TAnswer.mk y34.1 y69.1 ([] : List Str) ([] : List Int)), false)) (
  Option.bind (answer_read_3 m z78.2 y34.1 y69.1 ([] : List Str) ([] : List Int)) fun y106 =>
  Option.bind (
  lt (!y106.1) fun x114 =>
  cond x114 (
  some (true, y106.2.1)) (
  Option.bind (answer_read_1 [32] y106.2.1) fun y124 =>
  some (!y124.1, y124.2))) fun (z113 : Bool × Str) =>
  cond z113.1 (
  some ((TAnswer.mk y34.1 y69.1 y106.2.2 ([] : List Int)), false)) (
  Option.bind (answer_read_3_2 m z113.2 y34.1 y69.1 y106.2.2 ([] : List Int)) fun y139 =>
  cond y139.1 (
  some ((TAnswer.mk y34.1 y69.1 y106.2.2 y139.2.2), y139.2.1 == [])) (
  some ((TAnswer.mk y34.1 y69.1 y106.2.2 y139.2.2), false)))))
def answer_ReadLine (m : Nat) (s : Str) : Option (TAnswer × Int) :=
  cond (decide (90000 < (ln s))) (
  some ((TAnswer.mk 0 0 ([] : List Str) ([] : List Int)), 28)) (
  Option.bind (answer_read m s) fun y18 =>
  cond (!y18.2) (
  some ((TAnswer.mk 0 0 ([] : List Str) ([] : List Int)), 12)) (
  Option.bind (answer_Line m y18.1) fun y44 =>
  cond (cond (y44.2 != 0) true (!(y44.1 == s))) (
  some ((TAnswer.mk 0 0 ([] : List Str) ([] : List Int)), 12)) (
  some (y18.1, 0))))
def r40_Same_L1 (m : Nat) (a_ : TAnswer) (b_ : TAnswer) : Nat → Int → Option (Sum (Bool) (Unit))
  | 0, _ => none
  | kk + 1, v19 =>
    cond (decide (v19 < (ln a_.Texts))) (
    chk (0 ≤ v19 ∧ v19 < ln a_.Texts) <|
    chk (0 ≤ v19 ∧ v19 < ln b_.Texts) <|
    lt (!((gi a_.Texts v19) == (gi b_.Texts v19))) fun x24 =>
    cond x24 (
    some (.inl false)) (
    r40_Same_L1 m a_ b_ kk (w64 (v19 + 1)))) (
    some (.inr ()))
def r40_Same_L2 (m : Nat) (a_ : TAnswer) (b_ : TAnswer) : Nat → Int → Option (Sum (Bool) (Unit))
  | 0, _ => none
  | kk + 1, v37 =>
    cond (decide (v37 < (ln a_.Numbers))) (
    chk (0 ≤ v37 ∧ v37 < ln a_.Numbers) <|
    chk (0 ≤ v37 ∧ v37 < ln b_.Numbers) <|
    lt ((gi a_.Numbers v37) != (gi b_.Numbers v37)) fun x42 =>
    cond x42 (
    some (.inl false)) (
    r40_Same_L2 m a_ b_ kk (w64 (v37 + 1)))) (
    some (.inr ()))
def r40_Same (m : Nat) (a_ : TAnswer) (b_ : TAnswer) : Option (Bool) :=
  lt (cond (a_.Err != b_.Err) true (a_.Num != b_.Num)) fun x9 =>
  lt (cond x9 true ((ln a_.Texts) != (ln b_.Texts))) fun x10 =>
  lt (cond x10 true ((ln a_.Numbers) != (ln b_.Numbers))) fun x11 =>
  cond x11 (
  some false) (
  Option.bind (
  r40_Same_L1 m a_ b_ m 0) fun (z16 : Sum (Bool) (Unit)) => sumK z16 fun s_z16 =>
  Option.bind (
  r40_Same_L2 m a_ b_ m 0) fun (z34 : Sum (Bool) (Unit)) => sumK z34 fun s_z34 =>
  some true)
def law40_is (m : Nat) (a_ : TAnswer) (want : Str) : Option (Bool) :=
  Option.bind (answer_Line m a_) fun y6 =>
  Option.bind (answer_ReadLine m want) fun y11 =>
  lt (cond (cond (y6.2 == 0) (y6.1 == want) false) (y11.2 == 0) false) fun x27 =>
  Option.bind (cond x27 (r40_Same m a_ y11.1) (some default)) fun y28 =>
  some (cond x27 y28 false)
def law40_none (m : Nat) (s : Str) : Option (Bool) :=
  Option.bind (answer_ReadLine m s) fun y5 =>
  Option.bind (cond (y5.2 == 12) (r40_Same m y5.1 (TAnswer.mk 0 0 [] [])) (some default)) fun y21 =>
  some (cond (y5.2 == 12) y21 false)
def law40_alive (m : Nat)  : Option (Bool) :=
  Option.bind (
  Option.bind (law40_is m (TAnswer.mk 6 0 [] []) [54, 32, 48, 32, 91, 93, 32, 91, 93]) fun y4 =>
  lt (y4) fun x5 =>
  cond x5 (
  Option.bind (law40_is m (TAnswer.mk 0 2 ([[97], []] : List Str) ([7, (-1)] : List Int)) [48, 32, 50, 32, 91, 34, 97, 34, 44, 32, 34, 34, 93, 32, 91, 55, 44, 32, 45, 49, 93]) fun y16 =>
  lt (y16) fun x17 =>
  cond x17 (
  Option.bind (law40_is m (TAnswer.mk 0 0 ([[34, 10, 128]] : List Str) []) [48, 32, 48, 32, 91, 34, 92, 34, 92, 110, 92, 120, 56, 48, 34, 93, 32, 91, 93]) fun y24 =>
  Option.bind (cond y24 (law40_none m [48, 32, 48, 32, 91, 32, 93, 32, 91, 93]) (some default)) fun y25 =>
  Option.bind (cond (cond y24 y25 false) (law40_none m [48, 32, 48, 48, 32, 91, 93, 32, 91, 93]) (some default)) fun y26 =>
  some (cond (cond y24 y25 false) y26 false)) (
  some false)) (
  some false)) fun (z3 : Bool) =>
  some z3
def answer_check_L1 (m : Nat) (l_ : List TAnswer) : Nat → Int → Option (Sum (Int) (Unit))
  | 0, _ => none
  | kk + 1, v10 =>
    cond (decide (v10 < (ln l_))) (
    chk (0 ≤ v10 ∧ v10 < ln l_) <|
    Option.bind (answer_Check m (gi l_ v10)) fun y21 =>
    cond (y21 != 0) (
    some (.inl y21)) (
    answer_check_L1 m l_ kk (w64 (v10 + 1)))) (
    some (.inr ()))
def answer_check (m : Nat) (l_ : List TAnswer) : Option (Int) :=
  cond (decide (60 < (ln l_))) (
  some 4) (
  Option.bind (
  answer_check_L1 m l_ m 0) fun (z7 : Sum (Int) (Unit)) => sumK z7 fun s_z7 =>
  some 0)
def slices_Equal_string_string_L1 (m : Nat) (s1 : List Str) (s2 : List Str) : Nat → Int → Option (Sum (Bool) (Unit))
  | 0, _ => none
  | kk + 1, v10 =>
    cond (decide (v10 < (ln s1))) (
    chk (0 ≤ v10 ∧ v10 < ln s1) <|
    chk (0 ≤ v10 ∧ v10 < ln s2) <|
    cond (!((gi s1 v10) == (gi s2 v10))) (
    some (.inl false)) (
    slices_Equal_string_string_L1 m s1 s2 kk (w64 (v10 + 1)))) (
    some (.inr ()))
def slices_Equal_string_string (m : Nat) (s1 : List Str) (s2 : List Str) : Option (Bool) :=
  cond ((ln s1) != (ln s2)) (
  some false) (
  Option.bind (
  slices_Equal_string_string_L1 m s1 s2 m 0) fun (z7 : Sum (Bool) (Unit)) => sumK z7 fun s_z7 =>
  some true)
def slices_Equal_int_int_L1 (m : Nat) (s1 : List Int) (s2 : List Int) : Nat → Int → Option (Sum (Bool) (Unit))
  | 0, _ => none
  | kk + 1, v10 =>
    cond (decide (v10 < (ln s1))) (
    chk (0 ≤ v10 ∧ v10 < ln s1) <|
    chk (0 ≤ v10 ∧ v10 < ln s2) <|
    cond ((gi s1 v10) != (gi s2 v10)) (
    some (.inl false)) (
    slices_Equal_int_int_L1 m s1 s2 kk (w64 (v10 + 1)))) (
    some (.inr ()))
def slices_Equal_int_int (m : Nat) (s1 : List Int) (s2 : List Int) : Option (Bool) :=
  cond ((ln s1) != (ln s2)) (
  some false) (
  Option.bind (
  slices_Equal_int_int_L1 m s1 s2 m 0) fun (z7 : Sum (Bool) (Unit)) => sumK z7 fun s_z7 =>
  some true)
def answer_same (m : Nat) (a_ : TAnswer) (b_ : TAnswer) : Option (Bool) :=
  lt (cond (a_.Err == b_.Err) (a_.Num == b_.Num) false) fun x9 =>
  Option.bind (cond x9 (slices_Equal_string_string m a_.Texts b_.Texts) (some default)) fun y10 =>
  Option.bind (cond (cond x9 y10 false) (slices_Equal_int_int m a_.Numbers b_.Numbers) (some default)) fun y11 =>
  some (cond (cond x9 y10 false) y11 false)
def answer_First_L1 (m : Nat) (a_ : List TAnswer) (b_ : List TAnswer) : Nat → Int → Option (Sum (Int × Int) (Unit))
  | 0, _ => none
  | kk + 1, v22 =>
    lt (decide (v22 < (if ln b_ < ln a_ then ln b_ else ln a_))) fun x23 =>
    cond x23 (
    chk (0 ≤ v22 ∧ v22 < ln a_) <|
    chk (0 ≤ v22 ∧ v22 < ln b_) <|
    Option.bind (answer_same m (gi a_ v22) (gi b_ v22)) fun y30 =>
    cond (!y30) (
    some (.inl (v22, 0))) (
    answer_First_L1 m a_ b_ kk (w64 (v22 + 1)))) (
    some (.inr ()))
def answer_First (m : Nat) (a_ : List TAnswer) (b_ : List TAnswer) : Option (Int × Int) :=
  Option.bind (answer_check m a_) fun y3 =>
  cond (y3 != 0) (
  some (0, y3)) (
  Option.bind (answer_check m b_) fun y10 =>
  cond (y10 != 0) (
  some (0, y10)) (
  Option.bind (
  answer_First_L1 m a_ b_ m 0) fun (z19 : Sum (Int × Int) (Unit)) => sumK z19 fun s_z19 =>
  cond ((ln a_) == (ln b_)) (
  some (0, 6)) (
  some (if ln b_ < ln a_ then ln b_ else ln a_, 0))))
def answer_Text_L1 (m : Nat) (l_ : List TAnswer) : Nat → Int → Str → Option (Sum (Str × Int) (Str))
  | 0, _, _ => none
  | kk + 1, v16, v17 =>
    cond (decide (v16 < (ln l_))) (
    chk (0 ≤ v16 ∧ v16 < ln l_) <|
    Option.bind (answer_Line m (gi l_ v16)) fun y29 =>
    cond (y29.2 != 0) (
    some (.inl ([], y29.2))) (
    chk (ln y29.1 + ln [10] ≤ 9223372036854775807) <|
    chk (ln v17 + ln (y29.1 ++ [10]) ≤ 1099511627776) <|
    lt (v17 ++ (y29.1 ++ [10])) fun q40 =>
    answer_Text_L1 m l_ kk (w64 (v16 + 1)) q40)) (
    some (.inr v17))
def answer_Text (m : Nat) (l_ : List TAnswer) : Option (Str × Int) :=
  Option.bind (answer_check m l_) fun y3 =>
  cond (y3 != 0) (
  some ([], y3)) (
  Option.bind (
  answer_Text_L1 m l_ m 0 ([] : Str)) fun (z13 : Sum (Str × Int) (Str)) => sumK z13 fun s_z13 =>
  some (s_z13, 0))
def stringslite_HasSuffix (s : Str) (suffix : Str) : Option (Bool) :=
  chk ((decide ((ln suffix) ≤ (ln s))) = true → 0 ≤ (w64 ((ln s) - (ln suffix))) ∧ (w64 ((ln s) - (ln suffix))) ≤ ln s) <|
  lt (cond (decide ((ln suffix) ≤ (ln s))) ((sub s (w64 ((ln s) - (ln suffix))) (ln s)) == suffix) false) fun x4 =>
  some x4
def strings_HasSuffix (s : Str) (suffix : Str) : Option (Bool) :=
  Option.bind (stringslite_HasSuffix s suffix) fun y3 =>
  some y3
def stringslite_Index (s : Str) (substr : Str) : Option (Int) :=
  lt (cond ((ln substr) == 0) true (substr == s)) fun x5 =>
  cond x5 (
  some 0) (
  cond ((ln substr) == 1) (
  chk (0 ≤ (0 : Int) ∧ (0 : Int) < ln substr) <|
  some (stringslite_IndexByte s (bat substr 0))) (
  cond (decide ((ln s) ≤ (ln substr))) (
  some (-1)) (
  none)))
def strings_Index (s : Str) (substr : Str) : Option (Int) :=
  Option.bind (stringslite_Index s substr) fun y3 =>
  some y3
def strings_Count_L1 (m : Nat) (substr : Str) : Nat → Str → Int → Option (Int)
  | 0, _, _ => none
  | kk + 1, v12, v13 =>
    Option.bind (strings_Index v12 substr) fun y14 =>
    cond (y14 == (-1)) (
    some v13) (
    chk (0 ≤ (w64 (y14 + (ln substr))) ∧ (w64 (y14 + (ln substr))) ≤ ln v12) <|
    lt (sub v12 (w64 (y14 + (ln substr))) (ln v12)) fun x24 =>
    strings_Count_L1 m substr kk x24 (w64 (v13 + 1)))
def strings_Count (m : Nat) (s : Str) (substr : Str) : Option (Int) :=
  cond ((ln substr) == 0) (
  none) (
  cond ((ln substr) == 1) (
  chk (0 ≤ (0 : Int) ∧ (0 : Int) < ln substr) <|
  some (nCountByte s (bat substr 0))) (
  strings_Count_L1 m substr m s 0))
def strings_Lines (s : Str) : Str :=
  s
def lines67_m (v : Str) : Option (Str × Str) :=
 cond (decide (0 ≤ (strings_IndexByte v 10))) (
 chk (0 ≤ (w64 ((strings_IndexByte v 10) + 1)) ∧ (w64 ((strings_IndexByte v 10) + 1)) ≤ ln v) <|
 lt (sub v 0 (w64 ((strings_IndexByte v 10) + 1))) fun x7 =>
 lt (sub v (w64 ((strings_IndexByte v 10) + 1)) (ln v)) fun x8 =>
 some (x7, x8)) (
 some (v, []))
def stringslite_TrimSuffix (s : Str) (suffix : Str) : Option (Str) :=
  Option.bind (stringslite_HasSuffix s suffix) fun y3 =>
  cond y3 (
  chk (0 ≤ (w64 ((ln s) - (ln suffix))) ∧ (w64 ((ln s) - (ln suffix))) ≤ ln s) <|
  some (sub s 0 (w64 ((ln s) - (ln suffix))))) (
  some s)
def strings_TrimSuffix (s : Str) (suffix : Str) : Option (Str) :=
  Option.bind (stringslite_TrimSuffix s suffix) fun y3 =>
  some y3
def answer_ReadText_L1 (m : Nat)  : Nat → Str → (List TAnswer) → Option ((List TAnswer) × Int)
  | 0, _, _ => none
  | kk + 1, v34, v35 =>
    cond (decide (0 < (ln v34))) (
    Option.bind (strings_TrimSuffix (lnT v34) [10]) fun y39 =>
    Option.bind (answer_ReadLine m y39) fun y42 =>
    cond (y42.2 != 0) (
    some ([], 12)) (
    chk (ln v35 + ln ([y42.1] : List TAnswer) ≤ 1099511627776) <|
    lt (v35 ++ ([y42.1] : List TAnswer)) fun q71 =>
    answer_ReadText_L1 m  kk (lnR v34) q71)) (
    some (v35, 0))
def answer_ReadText (m : Nat) (s : Str) : Option ((List TAnswer) × Int) :=
  cond (decide (5400000 < (ln s))) (
  some (([] : List TAnswer), 28)) (
  Option.bind (cond (!(s == [])) (strings_HasSuffix s [10]) (some default)) fun y14 =>
  Option.bind (cond (cond (!(s == [])) (!y14) false) (some default) (strings_Count m s [10])) fun y15 =>
  lt (cond (cond (!(s == [])) (!y14) false) true (decide (60 < y15))) fun x16 =>
  cond x16 (
  some (([] : List TAnswer), 12)) (
  lt (strings_Lines s) fun y29 =>
  chk (ln y29 ≤ 1099511627776) <|
  answer_ReadText_L1 m  m y29 ([] : List TAnswer)))
def law40_bad (m : Nat) (a_ : TAnswer) : Option (Bool) :=
  Option.bind (answer_Line m a_) fun y6 =>
  Option.bind (answer_Text m ([(TAnswer.mk 0 0 [] []), a_] : List TAnswer)) fun y15 =>
  Option.bind (answer_First m [] ([a_] : List TAnswer)) fun y24 =>
  Option.bind (answer_Check m a_) fun y27 =>
  lt (cond (cond (y27 == 8) (y6.2 == 8) false) (y6.1 == []) false) fun x28 =>
  lt (cond (cond x28 (y15.2 == 8) false) (y24.2 == 8) false) fun x29 =>
  some x29
def law40_AnswerNames (m : Nat)  : Option (Bool) :=
  chk (0 ≤ (20001 : Int) ∧ (20001 : Int) ≤ (20001 : Int) ∧ (20001 : Int) ≤ 1099511627776) <|
  Option.bind (
  Option.bind (law40_is m (TAnswer.mk 99 (-9223372036854775808) [] []) [57, 57, 32, 45, 57, 50, 50, 51, 51, 55, 50, 48, 51, 54, 56, 53, 52, 55, 55, 53, 56, 48, 56, 32, 91, 93, 32, 91, 93]) fun y11 =>
  lt (y11) fun x12 =>
  cond x12 (
  Option.bind (law40_is m (TAnswer.mk 0 9223372036854775807 [] ([0] : List Int)) [48, 32, 57, 50, 50, 51, 51, 55, 50, 48, 51, 54, 56, 53, 52, 55, 55, 53, 56, 48, 55, 32, 91, 93, 32, 91, 48, 93]) fun y19 =>
  lt (y19) fun x20 =>
  cond x20 (
  Option.bind (law40_is m (TAnswer.mk 0 0 ([[44, 32], [93, 32, 91]] : List Str) []) [48, 32, 48, 32, 91, 34, 44, 32, 34, 44, 32, 34, 93, 32, 91, 34, 93, 32, 91, 93]) fun y27 =>
  lt (y27) fun x28 =>
  cond x28 (
  Option.bind (law40_is m (TAnswer.mk 0 0 ([[92, 0, 127, 126, 32]] : List Str) []) [48, 32, 48, 32, 91, 34, 92, 92, 92, 120, 48, 48, 92, 120, 55, 102, 126, 32, 34, 93, 32, 91, 93]) fun y35 =>
  some y35) (
  some false)) (
  some false)) (
  some false)) fun (z10 : Bool) =>
  Option.bind (law40_bad m (TAnswer.mk (-1) 0 [] [])) fun y69 =>
  chk (y69 = true) <|
  Option.bind (law40_bad m (TAnswer.mk 100 0 [] [])) fun y71 =>
  chk ((cond y69 y71 false) = true) <|
  chk (0 ≤ (65 : Int) ∧ (65 : Int) ≤ (65 : Int) ∧ (65 : Int) ≤ 1099511627776) <|
  lt (List.replicate ((65 : Int)).toNat ([] : Str)) fun q74 =>
  Option.bind (law40_bad m (TAnswer.mk 0 0 q74 [])) fun y77 =>
  chk ((cond (cond y69 y71 false) y77 false) = true) <|
  Option.bind (law40_bad m (TAnswer.mk 0 0 ([toB (List.replicate ((20001 : Int)).toNat (0 : Int))] : List Str) [])) fun y81 =>
  chk ((cond (cond (cond y69 y71 false) y77 false) y81 false) = true) <|
  chk (0 ≤ (10000 : Int) ∧ (10000 : Int) ≤ ln (toB (List.replicate ((20001 : Int)).toNat (0 : Int)))) <|
  chk (0 ≤ (10001 : Int) ∧ (10001 : Int) ≤ ln (toB (List.replicate ((20001 : Int)).toNat (0 : Int)))) <|
  Option.bind (law40_bad m (TAnswer.mk 0 0 ([sub (toB (List.replicate ((20001 : Int)).toNat (0 : Int))) 0 10000, sub (toB (List.replicate ((20001 : Int)).toNat (0 : Int))) 0 10001] : List Str) [])) fun y87 =>
  chk ((cond (cond (cond (cond y69 y71 false) y77 false) y81 false) y87 false) = true) <|
  lt (List.replicate ((65 : Int)).toNat (0 : Int)) fun q89 =>
  Option.bind (law40_bad m (TAnswer.mk 0 0 [] q89)) fun y92 =>
  chk (0 ≤ (64 : Int) ∧ (64 : Int) ≤ (64 : Int) ∧ (64 : Int) ≤ 1099511627776) <|
  lt (List.replicate ((64 : Int)).toNat ([] : Str)) fun q102 =>
  lt (List.replicate ((64 : Int)).toNat (0 : Int)) fun q105 =>
  Option.bind (answer_Check m (TAnswer.mk 0 0 q102 q105)) fun y108 =>
  chk ((y108 == 0) = true) <|
  Option.bind (answer_Check m (TAnswer.mk 0 0 ([sub (toB (List.replicate ((20001 : Int)).toNat (0 : Int))) 0 10000, sub (toB (List.replicate ((20001 : Int)).toNat (0 : Int))) 0 10000] : List Str) [])) fun y112 =>
  Option.bind (law40_none m []) fun y119 =>
  Option.bind (cond y119 (law40_none m [48]) (some default)) fun y120 =>
  Option.bind (cond (cond y119 y120 false) (law40_none m [48, 32, 48]) (some default)) fun y121 =>
  Option.bind (cond (cond (cond y119 y120 false) y121 false) (law40_none m [48, 32, 48, 32, 91, 93]) (some default)) fun y122 =>
  Option.bind (cond (cond (cond (cond y119 y120 false) y121 false) y122 false) (law40_none m [48, 32, 48, 32, 91, 93, 32, 91, 93, 32]) (some default)) fun y123 =>
  Option.bind (cond (cond (cond (cond (cond y119 y120 false) y121 false) y122 false) y123 false) (law40_none m [32, 48, 32, 48, 32, 91, 93, 32, 91, 93]) (some default)) fun y124 =>
  Option.bind (cond (cond (cond (cond (cond (cond y119 y120 false) y121 false) y122 false) y123 false) y124 false) (law40_none m [49, 48, 48, 32, 48, 32, 91, 93, 32, 91, 93]) (some default)) fun y125 =>
  Option.bind (cond (cond (cond (cond (cond (cond (cond y119 y120 false) y121 false) y122 false) y123 false) y124 false) y125 false) (law40_none m [45, 49, 32, 48, 32, 91, 93, 32, 91, 93]) (some default)) fun y126 =>
  Option.bind (cond (cond (cond (cond (cond (cond (cond (cond y119 y120 false) y121 false) y122 false) y123 false) y124 false) y125 false) y126 false) (law40_none m [48, 54, 32, 48, 32, 91, 93, 32, 91, 93]) (some default)) fun y127 =>
  Option.bind (cond (cond (cond (cond (cond (cond (cond (cond (cond y119 y120 false) y121 false) y122 false) y123 false) y124 false) y125 false) y126 false) y127 false) (law40_none m [48, 32, 45, 48, 32, 91, 93, 32, 91, 93]) (some default)) fun y128 =>
  Option.bind (cond (cond (cond (cond (cond (cond (cond (cond (cond (cond y119 y120 false) y121 false) y122 false) y123 false) y124 false) y125 false) y126 false) y127 false) y128 false) (law40_none m [48, 32, 57, 50, 50, 51, 51, 55, 50, 48, 51, 54, 56, 53, 52, 55, 55, 53, 56, 48, 56, 32, 91, 93, 32, 91, 93]) (some default)) fun y129 =>
  Option.bind (cond (cond (cond (cond (cond (cond (cond (cond (cond (cond (cond y119 y120 false) y121 false) y122 false) y123 false) y124 false) y125 false) y126 false) y127 false) y128 false) y129 false) (law40_none m [48, 32, 43, 49, 32, 91, 93, 32, 91, 93]) (some default)) fun y130 =>
  Option.bind (cond (cond (cond (cond (cond (cond (cond (cond (cond (cond (cond (cond y119 y120 false) y121 false) y122 false) y123 false) y124 false) y125 false) y126 false) y127 false) y128 false) y129 false) y130 false) (law40_none m [48, 32, 48, 32, 91, 34, 97, 34, 44, 34, 98, 34, 93, 32, 91, 93]) (some default)) fun y131 =>
  Option.bind (cond (cond (cond (cond (cond (cond (cond (cond (cond (cond (cond (cond (cond y119 y120 false) y121 false) y122 false) y123 false) y124 false) y125 false) y126 false) y127 false) y128 false) y129 false) y130 false) y131 false) (law40_none m [48, 32, 48, 32, 91, 34, 97, 34, 44, 32, 93, 32, 91, 93]) (some default)) fun y132 =>
  Option.bind (cond (cond (cond (cond (cond (cond (cond (cond (cond (cond (cond (cond (cond (cond y119 y120 false) y121 false) y122 false) y123 false) y124 false) y125 false) y126 false) y127 false) y128 false) y129 false) y130 false) y131 false) y132 false) (law40_none m [48, 32, 48, 32, 91, 97, 93, 32, 91, 93]) (some default)) fun y133 =>
  Option.bind (cond (cond (cond (cond (cond (cond (cond (cond (cond (cond (cond (cond (cond (cond (cond y119 y120 false) y121 false) y122 false) y123 false) y124 false) y125 false) y126 false) y127 false) y128 false) y129 false) y130 false) y131 false) y132 false) y133 false) (law40_none m [48, 32, 48, 32, 91, 34, 97, 93, 32, 91, 93]) (some default)) fun y134 =>
  Option.bind (cond (cond (cond (cond (cond (cond (cond (cond (cond (cond (cond (cond (cond (cond (cond (cond y119 y120 false) y121 false) y122 false) y123 false) y124 false) y125 false) y126 false) y127 false) y128 false) y129 false) y130 false) y131 false) y132 false) y133 false) y134 false) (law40_none m [48, 32, 48, 32, 91, 34, 92, 97, 34, 93, 32, 91, 93]) (some default)) fun y135 =>
  Option.bind (cond (cond (cond (cond (cond (cond (cond (cond (cond (cond (cond (cond (cond (cond (cond (cond (cond y119 y120 false) y121 false) y122 false) y123 false) y124 false) y125 false) y126 false) y127 false) y128 false) y129 false) y130 false) y131 false) y132 false) y133 false) y134 false) y135 false) (law40_none m [48, 32, 48, 32, 91, 34, 92, 120, 52, 49, 34, 93, 32, 91, 93]) (some default)) fun y136 =>
  lt (cond (cond (cond (cond (cond (cond (cond (cond (cond (cond (cond (cond (cond (cond (cond (cond (cond y119 y120 false) y121 false) y122 false) y123 false) y124 false) y125 false) y126 false) y127 false) y128 false) y129 false) y130 false) y131 false) y132 false) y133 false) y134 false) y135 false) y136 false) fun x137 =>
  Option.bind (cond x137 (law40_none m [48, 32, 48, 32, 91, 34, 92, 120, 48, 97, 34, 93, 32, 91, 93]) (some default)) fun y138 =>
  Option.bind (cond (cond x137 y138 false) (law40_none m [48, 32, 48, 32, 91, 34, 92, 120, 70, 70, 34, 93, 32, 91, 93]) (some default)) fun y139 =>
  Option.bind (cond (cond (cond x137 y138 false) y139 false) (law40_none m [48, 32, 48, 32, 91, 34, 128, 34, 93, 32, 91, 93]) (some default)) fun y140 =>
  Option.bind (cond (cond (cond (cond x137 y138 false) y139 false) y140 false) (law40_none m [48, 32, 48, 32, 91, 93, 32, 91, 49, 44, 50, 93]) (some default)) fun y141 =>
  Option.bind (cond (cond (cond (cond (cond x137 y138 false) y139 false) y140 false) y141 false) (law40_none m [48, 32, 48, 32, 91, 93, 32, 91, 49, 32, 50, 93]) (some default)) fun y142 =>
  Option.bind (cond (cond (cond (cond (cond (cond x137 y138 false) y139 false) y140 false) y141 false) y142 false) (law40_none m [48, 32, 48, 32, 91, 93, 32, 91, 48, 49, 93]) (some default)) fun y143 =>
  Option.bind (cond (cond (cond (cond (cond (cond (cond x137 y138 false) y139 false) y140 false) y141 false) y142 false) y143 false) (law40_none m [48, 32, 48, 32, 91, 93, 32, 91, 49, 44, 32, 93]) (some default)) fun y144 =>
  Option.bind (cond (cond (cond (cond (cond (cond (cond (cond x137 y138 false) y139 false) y140 false) y141 false) y142 false) y143 false) y144 false) (law40_none m [48, 32, 48, 32, 91, 93, 32, 91]) (some default)) fun y145 =>
  Option.bind (cond (cond (cond (cond (cond (cond (cond (cond (cond x137 y138 false) y139 false) y140 false) y141 false) y142 false) y143 false) y144 false) y145 false) (law40_none m [48, 32, 32, 48, 32, 91, 93, 32, 91, 93]) (some default)) fun y146 =>
  Option.bind (cond (cond (cond (cond (cond (cond (cond (cond (cond (cond x137 y138 false) y139 false) y140 false) y141 false) y142 false) y143 false) y144 false) y145 false) y146 false) (law40_none m [48, 32, 48, 32, 91, 93, 91, 93]) (some default)) fun y147 =>
  chk (0 ≤ (61 : Int) ∧ (61 : Int) ≤ (61 : Int) ∧ (61 : Int) ≤ 1099511627776) <|
  lt (List.replicate ((61 : Int)).toNat ((TAnswer.mk 0 0 [] []) : TAnswer)) fun q151 =>
  Option.bind (answer_Text m q151) fun y158 =>
  chk (0 ≤ (0 : Int) ∧ (0 : Int) ≤ (60 : Int) ∧ (60 : Int) ≤ ln q151) <|
  lt (subl q151 (0 : Int) (60 : Int)) fun q164 =>
  Option.bind (answer_Text m q164) fun y169 =>
  Option.bind (answer_ReadText m y169.1) fun y174 =>
  chk (ln y169.1 + ln [48, 32, 48, 32, 91, 93, 32, 91, 93, 10] ≤ 9223372036854775807) <|
  Option.bind (answer_ReadText m (y169.1 ++ [48, 32, 48, 32, 91, 93, 32, 91, 93, 10])) fun y184 =>
  Option.bind (answer_ReadText m [48, 32, 48, 32, 91, 93, 32, 91, 93]) fun y191 =>
  Option.bind (answer_ReadText m [48, 32, 48, 32, 91, 93, 32, 91, 93, 10, 10]) fun y198 =>
  Option.bind (answer_ReadText m []) fun y205 =>
  Option.bind (answer_Text m []) fun y212 =>
  chk (0 ≤ (90001 : Int) ∧ (90001 : Int) ≤ (90001 : Int) ∧ (90001 : Int) ≤ 1099511627776) <|
  Option.bind (answer_ReadLine m (toB (List.replicate ((90001 : Int)).toNat (0 : Int)))) fun y222 =>
  chk (0 ≤ (5400001 : Int) ∧ (5400001 : Int) ≤ (5400001 : Int) ∧ (5400001 : Int) ≤ 1099511627776) <|
  Option.bind (answer_ReadText m (toB (List.replicate ((5400001 : Int)).toNat (0 : Int)))) fun y245 =>
  Option.bind (answer_First m q151 []) fun y252 =>
  Option.bind (answer_First m ([(TAnswer.mk 100 0 [] [])] : List TAnswer) q151) fun y261 =>
  Option.bind (answer_First m [] q151) fun y264 =>
  lt (subl q151 (0 : Int) (60 : Int)) fun q268 =>
  chk (0 ≤ (1 : Int) ∧ (1 : Int) ≤ (ln q151) ∧ (ln q151) ≤ ln q151) <|
  lt (subl q151 (1 : Int) (ln q151)) fun q272 =>
  Option.bind (answer_First m q268 q272) fun y275 =>
  lt (subl q151 (0 : Int) (60 : Int)) fun q282 =>
  chk (0 ≤ (0 : Int) ∧ (0 : Int) ≤ (59 : Int) ∧ (59 : Int) ≤ ln q151) <|
  lt (subl q151 (0 : Int) (59 : Int)) fun q286 =>
  Option.bind (answer_First m q282 q286) fun y289 =>
  Option.bind (answer_First m ([(TAnswer.mk 0 1 [] [])] : List TAnswer) []) fun y301 =>
  lt (cond (cond (cond z10 (cond (cond (cond (cond (cond y69 y71 false) y77 false) y81 false) y87 false) y92 false) false) (cond (y108 == 0) (y112 == 0) false) false) (cond (cond (cond (cond (cond (cond (cond (cond (cond (cond x137 y138 false) y139 false) y140 false) y141 false) y142 false) y143 false) y144 false) y145 false) y146 false) y147 false) false) fun x304 =>
  lt (cond (cond (cond (cond (cond (cond (cond (cond (cond (cond (cond x304 (y158.2 == 4) false) (y169.2 == 0) false) ((ln y169.1) == 600) false) (y174.2 == 0) false) ((ln y174.1) == 60) false) (y184.2 == 12) false) (y191.2 == 12) false) (y198.2 == 12) false) (y205.2 == 0) false) ((ln y205.1) == 0) false) (y212.2 == 0) false) fun x305 =>
  lt (cond (cond (cond (cond (cond (cond (cond (cond (cond (cond (cond x305 (y212.1 == []) false) (y222.2 == 28) false) (y245.2 == 28) false) (y252.2 == 4) false) (y261.2 == 8) false) (y264.2 == 4) false) (y275.2 == 6) false) (y289.2 == 0) false) (y289.1 == 59) false) (y301.2 == 0) false) (y301.1 == 0) false) fun x306 =>
  Option.bind (cond x306 (law40_alive m) (some default)) fun y307 =>
  some (cond x306 y307 false)
end Go.Proofs.YtipafpkdkhnjmaaDoor

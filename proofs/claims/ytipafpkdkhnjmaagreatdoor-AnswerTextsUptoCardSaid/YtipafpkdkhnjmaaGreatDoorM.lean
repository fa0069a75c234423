/-
  What the Go functions compute, as Lean functions, and that a call returns just that. Printed by a program.
-/
import Derived.Test.YtipafpkdkhnjmaaGreatDoorRows
import Derived.Test.YtipafpkdkhnjmaaGreatDoorVP
import Derived.Test.YtipafpkdkhnjmaaGreatDoorA
import Derived.Test.YtipafpkdkhnjmaaGreatDoorIA
import Derived.Test.YtipafpkdkhnjmaaGreatDoorRN
set_option linter.unusedVariables false
set_option maxRecDepth 20000
set_option maxHeartbeats 4000000
namespace Go.Proofs.YtipafpkdkhnjmaaGreatDoor
open Go.V Go.RowKit
structure TAnswer where
  Err : Int
  Num : Int
  Texts : List Str
  Numbers : List Int
instance : Inhabited TAnswer := ⟨⟨default, default, default, default⟩⟩
def r40_Big_L1 (m : Nat) (a_ : TAnswer) : Nat → Int → Int → Option (Int)
  | 0, _, _ => none
  | kk + 1, v16, v17 =>
    cond (decide (v17 < (ln a_.Texts))) (
    chk (0 ≤ v17 ∧ v17 < ln a_.Texts) <|
    r40_Big_L1 m a_ kk (w64 (v16 + (ln (gi a_.Texts v17)))) (w64 (v17 + 1))) (
    some v16)
def r40_Big (m : Nat) (a_ : TAnswer) : Option (Bool) :=
  lt (cond (decide (70 < (ln a_.Texts))) true (decide (70 < (ln a_.Numbers)))) fun x6 =>
  cond x6 (
  some true) (
  Option.bind (
  r40_Big_L1 m a_ m 0 0) fun (z13 : Int) =>
  lt (cond (decide (600 < z13)) (decide (z13 ≤ 20000)) false) fun x27 =>
  some (cond x27 true (decide (20100 < z13))))
def r40_Great_L1 (m : Nat) (l_ : List TAnswer) : Nat → Int → Option (Sum (Bool) (Unit))
  | 0, _ => none
  | kk + 1, v11 =>
    cond (decide (v11 < (ln l_))) (
    chk (0 ≤ v11 ∧ v11 < ln l_) <|
    Option.bind (r40_Big m (gi l_ v11)) fun y15 =>
    cond y15 (
    some (.inl true)) (
    r40_Great_L1 m l_ kk (w64 (v11 + 1)))) (
    some (.inr ()))
def r40_Great (m : Nat) (l_ : List TAnswer) : Option (Bool) :=
  lt (cond (decide (15 < (ln l_))) (decide ((ln l_) ≤ 60)) false) fun x3 =>
  cond (cond x3 true (decide (65 < (ln l_)))) (
  some true) (
  Option.bind (
  r40_Great_L1 m l_ m 0) fun (z8 : Sum (Bool) (Unit)) => sumK z8 fun s_z8 =>
  some false)
def answer_Check_L1 (m : Nat) (a_ : TAnswer) : Nat → Int → Int → Option (Int)
  | 0, _, _ => none
  | kk + 1, v11, v12 =>
    cond (decide (v12 < (ln a_.Texts))) (
    chk (0 ≤ v12 ∧ v12 < ln a_.Texts) <|
    answer_Check_L1 m a_ kk (w64 (v11 + (ln (gi a_.Texts v12)))) (w64 (v12 + 1))) (
    some v11)
def answer_Check (m : Nat) (a_ : TAnswer) : Option (Int) :=
  Option.bind (
  answer_Check_L1 m a_ m 0 0) fun (z8 : Int) =>
  lt (cond (decide (a_.Err < 0)) true (decide (99 < a_.Err))) fun x24 =>
  lt (cond x24 true (decide (64 < (ln a_.Texts)))) fun x25 =>
  lt (cond (cond x25 true (decide (20000 < z8))) true (decide (64 < (ln a_.Numbers)))) fun x26 =>
  cond x26 (
  some 8) (
  some 0)
def answer_check_L1 (m : Nat) (l_ : List TAnswer) : Nat → Int → Option (Sum (Int) (Unit))
  | 0, _ => none
  | kk + 1, v10 =>
    cond (decide (v10 < (ln l_))) (
    chk (0 ≤ v10 ∧ v10 < ln l_) <|
    Option.bind (answer_Check m (gi l_ v10)) fun y21 =>
    cond (y21 != 0) (
    some (.inl y21)) (
    answer_check_L1 m l_ kk (w64 (v10 + 1)))) (
    some (.inr ()))
def answer_check (m : Nat) (l_ : List TAnswer) : Option (Int) :=
  cond (decide (60 < (ln l_))) (
  some 4) (
  Option.bind (
  answer_check_L1 m l_ m 0) fun (z7 : Sum (Int) (Unit)) => sumK z7 fun s_z7 =>
  some 0)
def answer_quote_L1 (m : Nat) (s : Str) : Nat → Int → Str → Option (Str)
  | 0, _, _ => none
  | kk + 1, v14, v15 =>
    cond (decide (v14 < (ln s))) (
    Option.bind (
    chk (0 ≤ v14 ∧ v14 < ln s) <|
    Option.bind (
    cond ((bat s v14) == 10) (
    chk (ln v15 + ln [92, 110] ≤ 1099511627776) <|
    lt (v15 ++ [92, 110]) fun q29 =>
    Option.bind (
    some q29) fun r33 => some (.inl r33)) (
    lt (cond (decide ((bat s v14) < 32)) true (decide (126 < (bat s v14)))) fun x34 =>
    cond x34 (
    chk (ln v15 + ln [92, 120] ≤ 1099511627776) <|
    lt (v15 ++ [92, 120]) fun q38 =>
    chk (0 ≤ (Int.fdiv (bat s v14) (2 ^ 4)) ∧ (Int.fdiv (bat s v14) (2 ^ 4)) < ln [48, 49, 50, 51, 52, 53, 54, 55, 56, 57, 97, 98, 99, 100, 101, 102]) <|
    lt (bat [48, 49, 50, 51, 52, 53, 54, 55, 56, 57, 97, 98, 99, 100, 101, 102] (Int.fdiv (bat s v14) (2 ^ 4))) fun x43 =>
    chk (0 ≤ x43 ∧ x43 < 256) <|
    chk (ln q38 + 1 ≤ 1099511627776) <|
    lt (q38 ++ toB [x43]) fun q48 =>
    chk (0 ≤ (ibit .and .u8 (bat s v14) 15) ∧ (ibit .and .u8 (bat s v14) 15) < ln [48, 49, 50, 51, 52, 53, 54, 55, 56, 57, 97, 98, 99, 100, 101, 102]) <|
    lt (bat [48, 49, 50, 51, 52, 53, 54, 55, 56, 57, 97, 98, 99, 100, 101, 102] (ibit .and .u8 (bat s v14) 15)) fun x53 =>
    chk (0 ≤ x53 ∧ x53 < 256) <|
    chk (ln q48 + 1 ≤ 1099511627776) <|
    lt (q48 ++ toB [x53]) fun q58 =>
    Option.bind (
    some q58) fun r62 => some (.inl r62)) (
    lt (cond ((bat s v14) == 34) true ((bat s v14) == 92)) fun x63 =>
    cond x63 (
    chk (ln v15 + 1 ≤ 1099511627776) <|
    lt (v15 ++ toB [92]) fun q67 =>
    some (.inr q67)) (
    some (.inr v15))))) fun (z25 : Sum (Str) (Str)) => sumK z25 fun s_z25 =>
    chk (0 ≤ (bat s v14) ∧ (bat s v14) < 256) <|
    chk (ln s_z25 + 1 ≤ 1099511627776) <|
    lt (s_z25 ++ toB [bat s v14]) fun q79 =>
    some q79) fun (z19 : Str) =>
    answer_quote_L1 m s kk (w64 (v14 + 1)) z19) (
    some v15)
def answer_quote (m : Nat) (s : Str) : Option (Str) :=
  chk (ln ([] : Str) + 1 ≤ 1099511627776) <|
  lt (([] : Str) ++ toB [34]) fun q7 =>
  Option.bind (
  answer_quote_L1 m s m 0 q7) fun (z11 : Str) =>
  chk (ln z11 + 1 ≤ 1099511627776) <|
  lt (z11 ++ toB [34]) fun q92 =>
  some q92
def strings_Join_L1 (m : Nat) (elems : List Str) : Nat → Int → Int → Option (Int)
  | 0, _, _ => none
  | kk + 1, v31, v32 =>
    cond (decide (v32 < (ln elems))) (
    chk (0 ≤ v32 ∧ v32 < ln elems) <|
    lt (decide ((w64 (9223372036854775807 - v31)) < (ln (gi elems v32)))) fun x38 =>
    cond x38 (
    none) (
    strings_Join_L1 m elems kk (w64 (v31 + (ln (gi elems v32)))) (w64 (v32 + 1)))) (
    some v31)
def strings_Join_L2 (m : Nat) (sep : Str) (q69 : List Str) : Nat → Int → Str → Option (Str)
  | 0, _, _ => none
  | kk + 1, v76, v77 =>
    cond (decide (v76 < (ln q69))) (
    chk (0 ≤ v76 ∧ v76 < ln q69) <|
    chk (ln v77 + ln sep ≤ 1099511627776) <|
    lt (v77 ++ sep) fun q87 =>
    chk (ln q87 + ln (gi q69 v76) ≤ 1099511627776) <|
    lt (q87 ++ (gi q69 v76)) fun q94 =>
    strings_Join_L2 m sep q69 kk (w64 (v76 + 1)) q94) (
    some v77)
def strings_Join (m : Nat) (elems : List Str) (sep : Str) : Option (Str) :=
  cond ((ln elems) == 0) (
  some []) (
  cond ((ln elems) == 1) (
  chk (0 ≤ (0 : Int) ∧ (0 : Int) < ln elems) <|
  some (gi elems (0 : Int))) (
  Option.bind (
  cond (decide (0 < (ln sep))) (
  chk ((w64 ((ln elems) - 1)) ≠ 0) <|
  lt (w64 (Int.tdiv 9223372036854775807 (w64 ((ln elems) - 1)))) fun x20 =>
  cond (decide (x20 ≤ (ln sep))) (
  none) (
  lt (w64 (0 + (w64 ((ln sep) * (w64 ((ln elems) - 1)))))) fun x23 =>
  some x23)) (
  some 0)) fun (z16 : Int) =>
  Option.bind (
  strings_Join_L1 m elems m z16 0) fun (z28 : Int) =>
  chk (0 ≤ z28 ∧ z28 ≤ 281474976710656) <|
  chk (0 ≤ (0 : Int) ∧ (0 : Int) < ln elems) <|
  chk (ln ([] : Str) + ln (gi elems (0 : Int)) ≤ 1099511627776) <|
  lt (([] : Str) ++ (gi elems (0 : Int))) fun q61 =>
  Option.bind (
  chk (0 ≤ (1 : Int) ∧ (1 : Int) ≤ (ln elems) ∧ (ln elems) ≤ ln elems) <|
  lt (subl elems (1 : Int) (ln elems)) fun q69 =>
  strings_Join_L2 m sep q69 m 0 q61) fun (z65 : Str) =>
  some z65))
def answer_list (m : Nat) (l_ : List Str) : Option (Str) :=
  Option.bind (strings_Join m l_ [44, 32]) fun y3 =>
  chk (ln [91] + ln y3 ≤ 9223372036854775807) <|
  chk (ln ([91] ++ y3) + ln [93] ≤ 9223372036854775807) <|
  some (([91] ++ y3) ++ [93])
def answer_Line_L1 (m : Nat) (a_ : TAnswer) : Nat → (List Str) → Int → Option (List Str)
  | 0, _, _ => none
  | kk + 1, v19, v21 =>
    cond (decide (v21 < (ln a_.Texts))) (
    chk (0 ≤ v21 ∧ v21 < ln a_.Texts) <|
    Option.bind (answer_quote m (gi a_.Texts v21)) fun y27 =>
    chk (ln v19 + ln ([y27] : List Str) ≤ 1099511627776) <|
    lt (v19 ++ ([y27] : List Str)) fun q35 =>
    answer_Line_L1 m a_ kk q35 (w64 (v21 + 1))) (
    some v19)
def answer_Line_L2 (m : Nat) (a_ : TAnswer) : Nat → (List Str) → Int → Option (List Str)
  | 0, _, _ => none
  | kk + 1, v51, v53 =>
    cond (decide (v53 < (ln a_.Numbers))) (
    chk (0 ≤ v53 ∧ v53 < ln a_.Numbers) <|
    Option.bind (x_Itoa (gi a_.Numbers v53)) fun y59 =>
    chk (ln v51 + ln ([y59] : List Str) ≤ 1099511627776) <|
    lt (v51 ++ ([y59] : List Str)) fun q67 =>
    answer_Line_L2 m a_ kk q67 (w64 (v53 + 1))) (
    some v51)
def answer_Line (m : Nat) (a_ : TAnswer) : Option (Str × Int) :=
  Option.bind (answer_Check m a_) fun y6 =>
  cond (y6 != 0) (
  some ([], y6)) (
  Option.bind (
  answer_Line_L1 m a_ m ([] : List Str) 0) fun (z15 : List Str) =>
  Option.bind (
  answer_Line_L2 m a_ m ([] : List Str) 0) fun (z47 : List Str) =>
  Option.bind (x_Itoa a_.Err) fun y80 =>
  Option.bind (x_Itoa a_.Num) fun y81 =>
  Option.bind (answer_list m z15) fun y82 =>
  Option.bind (answer_list m z47) fun y83 =>
  Option.bind (strings_Join m ([y80, y81, y82, y83] : List Str) [32]) fun y86 =>
  some (y86, 0))
def answer_Text_L1 (m : Nat) (l_ : List TAnswer) : Nat → Int → Str → Option (Sum (Str × Int) (Str))
  | 0, _, _ => none
  | kk + 1, v16, v17 =>
    cond (decide (v16 < (ln l_))) (
    chk (0 ≤ v16 ∧ v16 < ln l_) <|
    Option.bind (answer_Line m (gi l_ v16)) fun y29 =>
    cond (y29.2 != 0) (
    some (.inl ([], y29.2))) (
    chk (ln y29.1 + ln [10] ≤ 9223372036854775807) <|
    chk (ln v17 + ln (y29.1 ++ [10]) ≤ 1099511627776) <|
    lt (v17 ++ (y29.1 ++ [10])) fun q40 =>
    answer_Text_L1 m l_ kk (w64 (v16 + 1)) q40)) (
    some (.inr v17))
def answer_Text (m : Nat) (l_ : List TAnswer) : Option (Str × Int) :=
  Option.bind (answer_check m l_) fun y3 =>
  cond (y3 != 0) (
  some ([], y3)) (
  Option.bind (
  answer_Text_L1 m l_ m 0 ([] : Str)) fun (z13 : Sum (Str × Int) (Str)) => sumK z13 fun s_z13 =>
  some (s_z13, 0))
def r40_Check_L1 (m : Nat) (a_ : TAnswer) : Nat → Int → Int → Option (Int)
  | 0, _, _ => none
  | kk + 1, v11, v12 =>
    lt (cond (decide (v12 < (ln a_.Texts))) (decide (v12 ≤ 64)) false) fun x13 =>
    cond x13 (
    chk (0 ≤ v12 ∧ v12 < ln a_.Texts) <|
    r40_Check_L1 m a_ kk (w64 (v11 + (ln (gi a_.Texts v12)))) (w64 (v12 + 1))) (
    some v11)
def r40_Check (m : Nat) (a_ : TAnswer) : Option (Int) :=
  Option.bind (
  r40_Check_L1 m a_ m 0 0) fun (z8 : Int) =>
  lt (cond (decide (a_.Err < 0)) true (decide (99 < a_.Err))) fun x23 =>
  lt (cond x23 true (decide (64 < (ln a_.Texts)))) fun x24 =>
  lt (cond (cond x24 true (decide (20000 < z8))) true (decide (64 < (ln a_.Numbers)))) fun x25 =>
  cond x25 (
  some 8) (
  some 0)
def r40_Log_L1 (m : Nat) (l_ : List TAnswer) : Nat → Int → Option (Sum (Int) (Unit))
  | 0, _ => none
  | kk + 1, v10 =>
    cond (decide (v10 < (ln l_))) (
    chk (0 ≤ v10 ∧ v10 < ln l_) <|
    Option.bind (r40_Check m (gi l_ v10)) fun y14 =>
    cond (y14 != 0) (
    some (.inl y14)) (
    r40_Log_L1 m l_ kk (w64 (v10 + 1)))) (
    some (.inr ()))
def r40_Log (m : Nat) (l_ : List TAnswer) : Option (Int) :=
  cond (decide (60 < (ln l_))) (
  some 4) (
  Option.bind (
  r40_Log_L1 m l_ m 0) fun (z7 : Sum (Int) (Unit)) => sumK z7 fun s_z7 =>
  some 0)
def r40_Char (c_ : Int) : Option (Str) :=
  cond (cond (c_ == 34) true (c_ == 92)) (
  some (toB ([92, c_] : List Int))) (
  cond (c_ == 10) (
  some [92, 110]) (
  lt (cond (decide (32 ≤ c_)) (decide (c_ ≤ 126)) false) fun x17 =>
  cond x17 (
  some (toB ([c_] : List Int))) (
  chk (0 ≤ (wu8 (Int.tdiv c_ 16)) ∧ (wu8 (Int.tdiv c_ 16)) ≤ (wu8 ((wu8 (Int.tdiv c_ 16)) + 1)) ∧ (wu8 ((wu8 (Int.tdiv c_ 16)) + 1)) ≤ ln [48, 49, 50, 51, 52, 53, 54, 55, 56, 57, 97, 98, 99, 100, 101, 102]) <|
  lt (sub [48, 49, 50, 51, 52, 53, 54, 55, 56, 57, 97, 98, 99, 100, 101, 102] (wu8 (Int.tdiv c_ 16)) (wu8 ((wu8 (Int.tdiv c_ 16)) + 1))) fun x29 =>
  chk (ln [92, 120] + ln x29 ≤ 9223372036854775807) <|
  chk (0 ≤ (Int.tmod c_ 16) ∧ (Int.tmod c_ 16) ≤ (wu8 ((Int.tmod c_ 16) + 1)) ∧ (wu8 ((Int.tmod c_ 16) + 1)) ≤ ln [48, 49, 50, 51, 52, 53, 54, 55, 56, 57, 97, 98, 99, 100, 101, 102]) <|
  lt (sub [48, 49, 50, 51, 52, 53, 54, 55, 56, 57, 97, 98, 99, 100, 101, 102] (Int.tmod c_ 16) (wu8 ((Int.tmod c_ 16) + 1))) fun x32 =>
  chk (ln ([92, 120] ++ x29) + ln x32 ≤ 9223372036854775807) <|
  some (([92, 120] ++ x29) ++ x32))))
def r40_Quoted_L1 (m : Nat) (s : Str) : Nat → (List Int) → Int → Option (List Int)
  | 0, _, _ => none
  | kk + 1, v12, v14 =>
    cond (decide (v14 < (ln s))) (
    chk (0 ≤ v14 ∧ v14 < ln s) <|
    Option.bind (r40_Char (bat s v14)) fun y18 =>
    chk (ln v12 + ln y18 ≤ 1099511627776) <|
    lt (v12 ++ ofB y18) fun q22 =>
    r40_Quoted_L1 m s kk q22 (w64 (v14 + 1))) (
    some v12)
def r40_Quoted (m : Nat) (s : Str) : Option (Str) :=
  Option.bind (
  r40_Quoted_L1 m s m ([34] : List Int) 0) fun (z9 : List Int) =>
  chk (ln z9 + ln ([34] : List Int) ≤ 1099511627776) <|
  lt (z9 ++ ([34] : List Int)) fun q40 =>
  some (toB q40)
def r40_Number_r (m : Nat) : Nat → Int → Option (Str)
  | 0, _ => none
  | k + 1, n_ =>
    cond (decide (n_ < 0)) (
    chk (0 ≤ (w64 (0 - (Int.tmod n_ 10))) ∧ (w64 (0 - (Int.tmod n_ 10))) ≤ (w64 ((w64 (0 - (Int.tmod n_ 10))) + 1)) ∧ (w64 ((w64 (0 - (Int.tmod n_ 10))) + 1)) ≤ ln [48, 49, 50, 51, 52, 53, 54, 55, 56, 57, 97, 98, 99, 100, 101, 102]) <|
    lt (sub [48, 49, 50, 51, 52, 53, 54, 55, 56, 57, 97, 98, 99, 100, 101, 102] (w64 (0 - (Int.tmod n_ 10))) (w64 ((w64 (0 - (Int.tmod n_ 10))) + 1))) fun x6 =>
    cond (decide ((-10) < n_)) (
    chk (ln [45] + ln x6 ≤ 9223372036854775807) <|
    some ([45] ++ x6)) (
    Option.bind ((r40_Number_r m k) (w64 (0 - (w64 (Int.tdiv n_ 10))))) fun y14 =>
    chk (ln [45] + ln y14 ≤ 9223372036854775807) <|
    chk (ln ([45] ++ y14) + ln x6 ≤ 9223372036854775807) <|
    some (([45] ++ y14) ++ x6))) (
    cond (decide (n_ < 10)) (
    chk (0 ≤ n_ ∧ n_ ≤ (w64 (n_ + 1)) ∧ (w64 (n_ + 1)) ≤ ln [48, 49, 50, 51, 52, 53, 54, 55, 56, 57, 97, 98, 99, 100, 101, 102]) <|
    lt (sub [48, 49, 50, 51, 52, 53, 54, 55, 56, 57, 97, 98, 99, 100, 101, 102] n_ (w64 (n_ + 1))) fun x23 =>
    some x23) (
    Option.bind ((r40_Number_r m k) (w64 (Int.tdiv n_ 10))) fun y26 =>
    chk (0 ≤ (Int.tmod n_ 10) ∧ (Int.tmod n_ 10) ≤ (w64 ((Int.tmod n_ 10) + 1)) ∧ (w64 ((Int.tmod n_ 10) + 1)) ≤ ln [48, 49, 50, 51, 52, 53, 54, 55, 56, 57, 97, 98, 99, 100, 101, 102]) <|
    lt (sub [48, 49, 50, 51, 52, 53, 54, 55, 56, 57, 97, 98, 99, 100, 101, 102] (Int.tmod n_ 10) (w64 ((Int.tmod n_ 10) + 1))) fun x28 =>
    chk (ln y26 + ln x28 ≤ 9223372036854775807) <|
    some (y26 ++ x28)))
def r40_Number (m : Nat) (n_ : Int) : Option (Str) := r40_Number_r m  m n_
def r40_Listed_L1 (m : Nat) (l_ : List Str) : Nat → (List Int) → Int → Option (List Int)
  | 0, _, _ => none
  | kk + 1, v12, v14 =>
    cond (decide (v14 < (ln l_))) (
    Option.bind (
    cond (decide (0 < v14)) (
    chk (ln v12 + ln [44, 32] ≤ 1099511627776) <|
    lt (v12 ++ ofB [44, 32]) fun q23 =>
    some q23) (
    some v12)) fun (z17 : List Int) =>
    chk (0 ≤ v14 ∧ v14 < ln l_) <|
    chk (ln z17 + ln (gi l_ v14) ≤ 1099511627776) <|
    lt (z17 ++ ofB (gi l_ v14)) fun q35 =>
    r40_Listed_L1 m l_ kk q35 (w64 (v14 + 1))) (
    some v12)
def r40_Listed (m : Nat) (l_ : List Str) : Option (Str) :=
  Option.bind (
  r40_Listed_L1 m l_ m ([91] : List Int) 0) fun (z9 : List Int) =>
  chk (ln z9 + ln ([93] : List Int) ≤ 1099511627776) <|
  lt (z9 ++ ([93] : List Int)) fun q54 =>
  some (toB q54)
def r40_Shown_L1 (m : Nat) (a_ : TAnswer) : Nat → (List Str) → Int → Option (List Str)
  | 0, _, _ => none
  | kk + 1, v12, v14 =>
    cond (decide (v14 < (ln a_.Texts))) (
    chk (0 ≤ v14 ∧ v14 < ln a_.Texts) <|
    Option.bind (r40_Quoted m (gi a_.Texts v14)) fun y18 =>
    chk (ln v12 + ln ([y18] : List Str) ≤ 1099511627776) <|
    lt (v12 ++ ([y18] : List Str)) fun q26 =>
    r40_Shown_L1 m a_ kk q26 (w64 (v14 + 1))) (
    some v12)
def r40_Shown_L2 (m : Nat) (a_ : TAnswer) : Nat → (List Str) → Int → Option (List Str)
  | 0, _, _ => none
  | kk + 1, v42, v44 =>
    cond (decide (v44 < (ln a_.Numbers))) (
    chk (0 ≤ v44 ∧ v44 < ln a_.Numbers) <|
    Option.bind (r40_Number m (gi a_.Numbers v44)) fun y48 =>
    chk (ln v42 + ln ([y48] : List Str) ≤ 1099511627776) <|
    lt (v42 ++ ([y48] : List Str)) fun q56 =>
    r40_Shown_L2 m a_ kk q56 (w64 (v44 + 1))) (
    some v42)
def r40_Shown (m : Nat) (a_ : TAnswer) : Option (Str) :=
  Option.bind (
  r40_Shown_L1 m a_ m ([] : List Str) 0) fun (z8 : List Str) =>
  Option.bind (
  r40_Shown_L2 m a_ m ([] : List Str) 0) fun (z38 : List Str) =>
  Option.bind (r40_Number m a_.Err) fun y68 =>
  chk (ln y68 + ln [32] ≤ 9223372036854775807) <|
  Option.bind (r40_Number m a_.Num) fun y70 =>
  chk (ln (y68 ++ [32]) + ln y70 ≤ 9223372036854775807) <|
  chk (ln ((y68 ++ [32]) ++ y70) + ln [32] ≤ 9223372036854775807) <|
  Option.bind (r40_Listed m z8) fun y73 =>
  chk (ln (((y68 ++ [32]) ++ y70) ++ [32]) + ln y73 ≤ 9223372036854775807) <|
  chk (ln ((((y68 ++ [32]) ++ y70) ++ [32]) ++ y73) + ln [32] ≤ 9223372036854775807) <|
  lt (((((y68 ++ [32]) ++ y70) ++ [32]) ++ y73) ++ [32]) fun x76 =>
  Option.bind (r40_Listed m z38) fun y77 =>
  chk (ln x76 + ln y77 ≤ 9223372036854775807) <|
  some (x76 ++ y77)
def r40_Text_L1 (m : Nat) (l_ : List TAnswer) : Nat → Str → Int → Option (Str)
  | 0, _, _ => none
  | kk + 1, v15, v16 =>
    cond (decide (v16 < (ln l_))) (
    chk (0 ≤ v16 ∧ v16 < ln l_) <|
    Option.bind (r40_Shown m (gi l_ v16)) fun y20 =>
    chk (ln y20 + ln [10] ≤ 9223372036854775807) <|
    chk (ln v15 + ln (y20 ++ [10]) ≤ 9223372036854775807) <|
    r40_Text_L1 m l_ kk (v15 ++ (y20 ++ [10])) (w64 (v16 + 1))) (
    some v15)
def r40_Text (m : Nat) (l_ : List TAnswer) : Option (Str × Int) :=
  Option.bind (r40_Log m l_) fun y3 =>
  cond (y3 != 0) (
  some ([], y3)) (
  Option.bind (
  r40_Text_L1 m l_ m [] 0) fun (z12 : Str) =>
  some (z12, 0))
def stringslite_HasSuffix (s : Str) (suffix : Str) : Option (Bool) :=
  chk ((decide ((ln suffix) ≤ (ln s))) = true → 0 ≤ (w64 ((ln s) - (ln suffix))) ∧ (w64 ((ln s) - (ln suffix))) ≤ ln s) <|
  lt (cond (decide ((ln suffix) ≤ (ln s))) ((sub s (w64 ((ln s) - (ln suffix))) (ln s)) == suffix) false) fun x4 =>
  some x4
def strings_HasSuffix (s : Str) (suffix : Str) : Option (Bool) :=
  Option.bind (stringslite_HasSuffix s suffix) fun y3 =>
  some y3
def stringslite_IndexByte (s : Str) (c_ : Int) : Int :=
  (nIndexByte s c_)
def stringslite_Index (s : Str) (substr : Str) : Option (Int) :=
  lt (cond ((ln substr) == 0) true (substr == s)) fun x5 =>
  cond x5 (
  some 0) (
  cond ((ln substr) == 1) (
  chk (0 ≤ (0 : Int) ∧ (0 : Int) < ln substr) <|
  some (stringslite_IndexByte s (bat substr 0))) (
  cond (decide ((ln s) ≤ (ln substr))) (
  some (-1)) (
  none)))
def strings_Index (s : Str) (substr : Str) : Option (Int) :=
  Option.bind (stringslite_Index s substr) fun y3 =>
  some y3
def strings_Count_L1 (m : Nat) (substr : Str) : Nat → Str → Int → Option (Int)
  | 0, _, _ => none
  | kk + 1, v12, v13 =>
    Option.bind (strings_Index v12 substr) fun y14 =>
    cond (y14 == (-1)) (
    some v13) (
    chk (0 ≤ (w64 (y14 + (ln substr))) ∧ (w64 (y14 + (ln substr))) ≤ ln v12) <|
    lt (sub v12 (w64 (y14 + (ln substr))) (ln v12)) fun x24 =>
    strings_Count_L1 m substr kk x24 (w64 (v13 + 1)))
def strings_Count (m : Nat) (s : Str) (substr : Str) : Option (Int) :=
  cond ((ln substr) == 0) (
  none) (
  cond ((ln substr) == 1) (
  chk (0 ≤ (0 : Int) ∧ (0 : Int) < ln substr) <|
  some (nCountByte s (bat substr 0))) (
  strings_Count_L1 m substr m s 0))
def strings_Lines (s : Str) : Str :=
  s
def strings_IndexByte (s : Str) (c_ : Int) : Int :=
  (stringslite_IndexByte s c_)
def lines42_m (v : Str) : Option (Str × Str) :=
 cond (decide (0 ≤ (strings_IndexByte v 10))) (
 chk (0 ≤ (w64 ((strings_IndexByte v 10) + 1)) ∧ (w64 ((strings_IndexByte v 10) + 1)) ≤ ln v) <|
 lt (sub v 0 (w64 ((strings_IndexByte v 10) + 1))) fun x7 =>
 lt (sub v (w64 ((strings_IndexByte v 10) + 1)) (ln v)) fun x8 =>
 some (x7, x8)) (
 some (v, []))
def stringslite_TrimSuffix (s : Str) (suffix : Str) : Option (Str) :=
  Option.bind (stringslite_HasSuffix s suffix) fun y3 =>
  cond y3 (
  chk (0 ≤ (w64 ((ln s) - (ln suffix))) ∧ (w64 ((ln s) - (ln suffix))) ≤ ln s) <|
  some (sub s 0 (w64 ((ln s) - (ln suffix))))) (
  some s)
def strings_TrimSuffix (s : Str) (suffix : Str) : Option (Str) :=
  Option.bind (stringslite_TrimSuffix s suffix) fun y3 =>
  some y3
def x_strings_IndexAny (x0 : Str) (x1 : Str) : Option Int := chk (x1 = [32, 44, 93] ∧ x0.length < 4294967281) (some (Lib.indexAny x0 x1))
def answer_read_2 (u0 : Str) : Option (Int × Bool × Str) :=
  Option.bind (x_strings_IndexAny u0 [32, 44, 93]) fun y3 =>
  cond (decide (y3 < 0)) (
  some (0, false, u0)) (
  chk (0 ≤ y3 ∧ y3 ≤ ln u0) <|
  Option.bind (x_Atoi (sub u0 0 y3)) fun y13 =>
  cond y13.2 (
  some (y13.1, true, sub u0 y3 (ln u0))) (
  some (y13.1, false, sub u0 y3 (ln u0))))
def stringslite_HasPrefix (s : Str) (prefix_ : Str) : Option (Bool) :=
  chk ((decide ((ln prefix_) ≤ (ln s))) = true → 0 ≤ (ln prefix_) ∧ (ln prefix_) ≤ ln s) <|
  lt (cond (decide ((ln prefix_) ≤ (ln s))) ((sub s 0 (ln prefix_)) == prefix_) false) fun x4 =>
  some x4
def stringslite_CutPrefix (s : Str) (prefix_ : Str) : Option (Str × Bool) :=
  Option.bind (stringslite_HasPrefix s prefix_) fun y3 =>
  cond (!y3) (
  some (s, false)) (
  chk (0 ≤ (ln prefix_) ∧ (ln prefix_) ≤ ln s) <|
  some (sub s (ln prefix_) (ln s), true))
def strings_CutPrefix (s : Str) (prefix_ : Str) : Option (Str × Bool) :=
  Option.bind (stringslite_CutPrefix s prefix_) fun y3 =>
  some (y3.1, y3.2)
def answer_read_1 (what : Str) (u0 : Str) : Option (Bool × Str) :=
  Option.bind (strings_CutPrefix u0 what) fun y3 =>
  some (y3.2, y3.1)
def strings_HasPrefix (s : Str) (prefix_ : Str) : Option (Bool) :=
  Option.bind (stringslite_HasPrefix s prefix_) fun y3 =>
  some y3
def answer_hex (c_ : Int) : Int :=
  lt (strings_IndexByte [48, 49, 50, 51, 52, 53, 54, 55, 56, 57, 97, 98, 99, 100, 101, 102] c_) fun y3 =>
  y3
def answer_unquote_L1 (m : Nat) (s : Str) : Nat → (List Int) → Int → Option (Sum (Str × Int) (Unit))
  | 0, _, _ => none
  | kk + 1, v9, v11 =>
    cond (decide (v11 < (ln s))) (
    Option.bind (
    chk (0 ≤ v11 ∧ v11 < ln s) <|
    cond ((bat s v11) == 34) (
    some (.inl (.inl (toB v9, w64 (v11 + 1))))) (
    cond ((bat s v11) != 92) (
    chk (ln v9 + ln ([bat s v11] : List Int) ≤ 1099511627776) <|
    lt (v9 ++ ([bat s v11] : List Int)) fun q29 =>
    some (.inr (v11, q29))) (
    chk (0 ≤ v11 ∧ v11 ≤ ln s) <|
    Option.bind (strings_HasPrefix (sub s v11 (ln s)) [92, 110]) fun y36 =>
    cond y36 (
    chk (ln v9 + ln ([10] : List Int) ≤ 1099511627776) <|
    lt (v9 ++ ([10] : List Int)) fun q46 =>
    some (.inr (w64 (v11 + 1), q46))) (
    Option.bind (strings_HasPrefix (sub s v11 (ln s)) [92, 120]) fun y54 =>
    lt (cond y54 (decide ((w64 (v11 + 3)) < (ln s))) false) fun x55 =>
    cond x55 (
    chk (0 ≤ (w64 (v11 + 2)) ∧ (w64 (v11 + 2)) < ln s) <|
    chk (0 ≤ (w64 (v11 + 3)) ∧ (w64 (v11 + 3)) < ln s) <|
    lt (decide ((answer_hex (bat s (w64 (v11 + 2)))) < 0)) fun x62 =>
    lt (cond x62 true (decide ((answer_hex (bat s (w64 (v11 + 3)))) < 0))) fun x63 =>
    cond x63 (
    some (.inl (.inl ([], 0)))) (
    lt (w64 ((answer_hex (bat s (w64 (v11 + 2)))) * 2 ^ 4)) fun x68 =>
    lt (ibit .or .i64 x68 (answer_hex (bat s (w64 (v11 + 3))))) fun x69 =>
    chk (ln v9 + ln ([wu8 x69] : List Int) ≤ 1099511627776) <|
    lt (v9 ++ ([wu8 x69] : List Int)) fun q77 =>
    some (.inr (w64 (v11 + 3), q77)))) (
    cond (decide ((w64 (v11 + 1)) < (ln s))) (
    chk (0 ≤ (w64 (v11 + 1)) ∧ (w64 (v11 + 1)) < ln s) <|
    chk (ln v9 + ln ([bat s (w64 (v11 + 1))] : List Int) ≤ 1099511627776) <|
    lt (v9 ++ ([bat s (w64 (v11 + 1))] : List Int)) fun q96 =>
    some (.inr (w64 (v11 + 1), q96))) (
    some (.inr (v11, v9)))))))) fun (z14 : Sum (Sum (Str × Int) (Unit)) (Int × (List Int))) => sumK z14 fun s_z14 =>
    answer_unquote_L1 m s kk s_z14.2 (w64 (s_z14.1 + 1))) (
    some (.inr ()))
def answer_unquote (m : Nat) (s : Str) : Option (Str × Int) :=
  Option.bind (
  answer_unquote_L1 m s m ([] : List Int) 0) fun (z5 : Sum (Str × Int) (Unit)) => sumK z5 fun s_z5 =>
  some ([], 0)
def answer_read_4 (m : Nat) (u0_c0 : Str) (u2_Err : Int) (u2_Num : Int) (u2_Texts : List Str) (u2_Numbers : List Int) : Option (Bool × Str × (List Str)) :=
  Option.bind (answer_read_1 [34] u0_c0) fun y5 =>
  cond (!y5.1) (
  some (false, y5.2, u2_Texts)) (
  Option.bind (answer_unquote m y5.2) fun y12 =>
  chk (ln u2_Texts + ln ([y12.1] : List Str) ≤ 1099511627776) <|
  lt (u2_Texts ++ ([y12.1] : List Str)) fun q22 =>
  chk (0 ≤ y12.2 ∧ y12.2 ≤ ln y5.2) <|
  some (decide (0 < y12.2), sub y5.2 y12.2 (ln y5.2), q22))
def answer_read_3_L1 (m : Nat) (one_c2_Err : Int) (one_c2_Num : Int) (one_c2_Numbers : List Int) : Nat → Bool → Str → (List Str) → Option (Sum (Bool × Str × (List Str)) (Str × (List Str)))
  | 0, _, _, _ => none
  | kk + 1, v15, v16, v17 =>
    Option.bind (answer_read_1 [93] v16) fun y21 =>
    cond (!y21.1) (
    Option.bind (
    lt (!v15) fun x27 =>
    cond x27 (
    Option.bind (answer_read_1 [44, 32] y21.2) fun y32 =>
    lt (!y32.1) fun x35 =>
    cond x35 (
    some (true, y32.2, v17)) (
    Option.bind (answer_read_4 m y32.2 one_c2_Err one_c2_Num v17 one_c2_Numbers) fun y45 =>
    some (!y45.1, y45.2.1, y45.2.2))) (
    Option.bind (answer_read_4 m y21.2 one_c2_Err one_c2_Num v17 one_c2_Numbers) fun y57 =>
    some (!y57.1, y57.2.1, y57.2.2))) fun (z26 : Bool × Str × (List Str)) =>
    cond z26.1 (
    some (.inl (false, z26.2.1, z26.2.2))) (
    answer_read_3_L1 m one_c2_Err one_c2_Num one_c2_Numbers kk false z26.2.1 z26.2.2)) (
    some (.inr (y21.2, v17)))
def answer_read_3 (m : Nat) (one_c0_c0 : Str) (one_c2_Err : Int) (one_c2_Num : Int) (one_c2_Texts : List Str) (one_c2_Numbers : List Int) : Option (Bool × Str × (List Str)) :=
  Option.bind (answer_read_1 [91] one_c0_c0) fun y5 =>
  cond (!y5.1) (
  some (false, y5.2, one_c2_Texts)) (
  Option.bind (
  answer_read_3_L1 m one_c2_Err one_c2_Num one_c2_Numbers m true y5.2 one_c2_Texts) fun (z12 : Sum (Bool × Str × (List Str)) (Str × (List Str))) => sumK z12 fun s_z12 =>
  some (true, s_z12.1, s_z12.2))
def answer_read_5 (u0_c0 : Str) (u1_Err : Int) (u1_Num : Int) (u1_Texts : List Str) (u1_Numbers : List Int) : Option (Bool × Str × (List Int)) :=
  Option.bind (answer_read_2 u0_c0) fun y5 =>
  chk (ln u1_Numbers + ln ([y5.1] : List Int) ≤ 1099511627776) <|
  lt (u1_Numbers ++ ([y5.1] : List Int)) fun q17 =>
  some (y5.2.1, y5.2.2, q17)
def answer_read_3_2_L1 (m : Nat) (one_c1_Err : Int) (one_c1_Num : Int) (one_c1_Texts : List Str) : Nat → Bool → Str → (List Int) → Option (Sum (Bool × Str × (List Int)) (Str × (List Int)))
  | 0, _, _, _ => none
  | kk + 1, v15, v16, v17 =>
    Option.bind (answer_read_1 [93] v16) fun y21 =>
    cond (!y21.1) (
    Option.bind (
    lt (!v15) fun x27 =>
    cond x27 (
    Option.bind (answer_read_1 [44, 32] y21.2) fun y32 =>
    lt (!y32.1) fun x35 =>
    cond x35 (
    some (true, y32.2, v17)) (
    Option.bind (answer_read_5 y32.2 one_c1_Err one_c1_Num one_c1_Texts v17) fun y45 =>
    some (!y45.1, y45.2.1, y45.2.2))) (
    Option.bind (answer_read_5 y21.2 one_c1_Err one_c1_Num one_c1_Texts v17) fun y57 =>
    some (!y57.1, y57.2.1, y57.2.2))) fun (z26 : Bool × Str × (List Int)) =>
    cond z26.1 (
    some (.inl (false, z26.2.1, z26.2.2))) (
    answer_read_3_2_L1 m one_c1_Err one_c1_Num one_c1_Texts kk false z26.2.1 z26.2.2)) (
    some (.inr (y21.2, v17)))
def answer_read_3_2 (m : Nat) (one_c0_c0 : Str) (one_c1_Err : Int) (one_c1_Num : Int) (one_c1_Texts : List Str) (one_c1_Numbers : List Int) : Option (Bool × Str × (List Int)) :=
  Option.bind (answer_read_1 [91] one_c0_c0) fun y5 =>
  cond (!y5.1) (
  some (false, y5.2, one_c1_Numbers)) (
  Option.bind (
  answer_read_3_2_L1 m one_c1_Err one_c1_Num one_c1_Texts m true y5.2 one_c1_Numbers) fun (z12 : Sum (Bool × Str × (List Int)) (Str × (List Int))) => sumK z12 fun s_z12 =>
  some (true, s_z12.1, s_z12.2))
def answer_read (m : Nat) (s : Str) : Option (TAnswer × Bool) :=
  Option.bind (answer_read_2 s) fun y34 =>
  Option.bind (
  lt (!y34.2.1) fun x40 =>
  cond x40 (
  some (true, y34.2.2)) (
  Option.bind (answer_read_1 [32] y34.2.2) fun y50 =>
  some (!y50.1, y50.2))) fun (z39 : Bool × Str) =>
  cond z39.1 (
  some ((TAnswer.mk 0 0 ([] : List Str) ([] : List Int)), false)) (
  Option.bind (answer_read_2 z39.2) fun y69 =>
  Option.bind (
  lt (!y69.2.1) fun x79 =>
  cond x79 (
  some (true, y69.2.2)) (
  Option.bind (answer_read_1 [32] y69.2.2) fun y89 =>
  some (!y89.1, y89.2))) fun (z78 : Bool × Str) =>
  cond z78.1 (
  some ((TAnswer.mk y34.1 y69.1 ([] : List Str) ([] : List Int)), false)) (
  Option.bind (answer_read_3 m z78.2 y34.1 y69.1 ([] : List Str) ([] : List Int)) fun y106 =>
  Option.bind (
  lt (!y106.1) fun x114 =>
  cond x114 (
  some (true, y106.2.1)) (
  Option.bind (answer_read_1 [32] y106.2.1) fun y124 =>
  some (!y124.1, y124.2))) fun (z113 : Bool × Str) =>
  cond z113.1 (
  some ((TAnswer.mk y34.1 y69.1 y106.2.2 ([] : List Int)), false)) (
  Option.bind (answer_read_3_2 m z113.2 y34.1 y69.1 y106.2.2 ([] : List Int)) fun y139 =>
  cond y139.1 (
  some ((TAnswer.mk y34.1 y69.1 y106.2.2 y139.2.2), y139.2.1 == [])) (
  some ((TAnswer.mk y34.1 y69.1 y106.2.2 y139.2.2), false)))))
def answer_ReadLine (m : Nat) (s : Str) : Option (TAnswer × Int) :=
  cond (decide (90000 < (ln s))) (
  some ((TAnswer.mk 0 0 ([] : List Str) ([] : List Int)), 28)) (
  Option.bind (answer_read m s) fun y18 =>
  cond (!y18.2) (
  some ((TAnswer.mk 0 0 ([] : List Str) ([] : List Int)), 12)) (
  Option.bind (answer_Line m y18.1) fun y44 =>
  cond (cond (y44.2 != 0) true (!(y44.1 == s))) (
  some ((TAnswer.mk 0 0 ([] : List Str) ([] : List Int)), 12)) (
  some (y18.1, 0))))
def answer_ReadText_L1 (m : Nat)  : Nat → Str → (List TAnswer) → Option ((List TAnswer) × Int)
  | 0, _, _ => none
  | kk + 1, v34, v35 =>
    cond (decide (0 < (ln v34))) (
    Option.bind (strings_TrimSuffix (lnT v34) [10]) fun y39 =>
    Option.bind (answer_ReadLine m y39) fun y42 =>
    cond (y42.2 != 0) (
    some ([], 12)) (
    chk (ln v35 + ln ([y42.1] : List TAnswer) ≤ 1099511627776) <|
    lt (v35 ++ ([y42.1] : List TAnswer)) fun q71 =>
    answer_ReadText_L1 m  kk (lnR v34) q71)) (
    some (v35, 0))
def answer_ReadText (m : Nat) (s : Str) : Option ((List TAnswer) × Int) :=
  cond (decide (5400000 < (ln s))) (
  some (([] : List TAnswer), 28)) (
  Option.bind (cond (!(s == [])) (strings_HasSuffix s [10]) (some default)) fun y14 =>
  Option.bind (cond (cond (!(s == [])) (!y14) false) (some default) (strings_Count m s [10])) fun y15 =>
  lt (cond (cond (!(s == [])) (!y14) false) true (decide (60 < y15))) fun x16 =>
  cond x16 (
  some (([] : List TAnswer), 12)) (
  lt (strings_Lines s) fun y29 =>
  chk (ln y29 ≤ 1099511627776) <|
  answer_ReadText_L1 m  m y29 ([] : List TAnswer)))
def r40_Split_L1 (m : Nat) (s : Str) : Nat → (List Str) → Int → Int → Option ((List Str) × Int)
  | 0, _, _, _ => none
  | kk + 1, v11, v13, v14 =>
    cond (decide (v14 < (ln s))) (
    Option.bind (
    chk (0 ≤ v14 ∧ v14 < ln s) <|
    cond ((bat s v14) == 10) (
    chk (0 ≤ v13 ∧ v13 ≤ v14 ∧ v14 ≤ ln s) <|
    chk (ln v11 + ln ([sub s v13 v14] : List Str) ≤ 1099511627776) <|
    lt (v11 ++ ([sub s v13 v14] : List Str)) fun q29 =>
    some (w64 (v14 + 1), q29)) (
    some (v13, v11))) fun (z17 : Int × (List Str)) =>
    r40_Split_L1 m s kk z17.2 z17.1 (w64 (v14 + 1))) (
    some (v11, v13))
def r40_Split (m : Nat) (s : Str) : Option ((List Str) × Bool) :=
  Option.bind (
  r40_Split_L1 m s m ([] : List Str) 0 0) fun (z7 : (List Str) × Int) =>
  some (z7.1, z7.2 == (ln s))
def r40_number_L1 (m : Nat) (s : Str) : Nat → Int → Option (Int)
  | 0, _ => none
  | kk + 1, v6 =>
    chk ((decide (v6 < (ln s))) = true → 0 ≤ v6 ∧ v6 < ln s) <|
    chk ((decide (48 ≤ (bat s v6))) = true → (decide (v6 < (ln s))) = true → 0 ≤ v6 ∧ v6 < ln s) <|
    chk ((v6 == 0) = true → (cond (decide (48 ≤ (bat s v6))) (decide ((bat s v6) ≤ 57)) false) = false → (decide (v6 < (ln s))) = true → 0 ≤ v6 ∧ v6 < ln s) <|
    lt (cond (decide (v6 < (ln s))) (cond (cond (decide (48 ≤ (bat s v6))) (decide ((bat s v6) ≤ 57)) false) true (cond (v6 == 0) ((bat s v6) == 45) false)) false) fun x10 =>
    cond x10 (
    r40_number_L1 m s kk (w64 (v6 + 1))) (
    some v6)
def r40_number_L2 (m : Nat) (s : Str) (z5 : Int) : Nat → Int → Int → Option (Int)
  | 0, _, _ => none
  | kk + 1, v22, v23 =>
    lt (cond (decide (v23 < z5)) (decide (z5 ≤ 20)) false) fun x24 =>
    cond x24 (
    Option.bind (
    chk (0 ≤ v23 ∧ v23 < ln s) <|
    cond ((bat s v23) == 45) (
    some v22) (
    lt (w64 ((w64 (v22 * 10)) - (w64 (wu8 ((bat s v23) - 48))))) fun x31 =>
    some x31)) fun (z27 : Int) =>
    r40_number_L2 m s z5 kk z27 (w64 (v23 + 1))) (
    some v22)
def r40_number (m : Nat) (s : Str) : Option (Int × Str) :=
  Option.bind (
  r40_number_L1 m s m 0) fun (z5 : Int) =>
  Option.bind (
  r40_number_L2 m s z5 m 0 0) fun (z19 : Int) =>
  Option.bind (
  chk ((z5 == 0) = false → 0 ≤ (0 : Int) ∧ (0 : Int) < ln s) <|
  cond (cond (z5 == 0) true ((bat s 0) != 45)) (
  some (w64 (0 - z19))) (
  some z19)) fun (z40 : Int) =>
  chk (0 ≤ z5 ∧ z5 ≤ ln s) <|
  some (z40, sub s z5 (ln s))
def r40_after (s : Str) (n_ : Int) : Option (Str) :=
  cond (decide ((ln s) < n_)) (
  some []) (
  chk (0 ≤ n_ ∧ n_ ≤ ln s) <|
  some (sub s n_ (ln s)))
def r40_quoted_L2 (m : Nat) (s : Str) : Nat → (List Int) → Int → Bool → Int → Option (Int × Bool × (List Int))
  | 0, _, _, _, _ => none
  | kk + 1, v31, v33, v34, v35 =>
    cond (cond (decide (v35 < 256)) (!v34) false) (
    Option.bind (
    Option.bind (r40_Char (wu8 v35)) fun y39 =>
    chk (0 ≤ v33 ∧ v33 < ln s) <|
    lt (cond ((bat s v33) == (wu8 v35)) true ((bat s v33) == 92)) fun x43 =>
    lt (cond x43 (decide ((ln y39) ≤ (w64 ((ln s) - v33)))) false) fun x44 =>
    chk (x44 = true → 0 ≤ v33 ∧ v33 ≤ (w64 (v33 + (ln y39))) ∧ (w64 (v33 + (ln y39))) ≤ ln s) <|
    lt (cond x44 ((sub s v33 (w64 (v33 + (ln y39)))) == y39) false) fun x46 =>
    cond x46 (
    chk (ln v31 + ln ([wu8 v35] : List Int) ≤ 1099511627776) <|
    lt (v31 ++ ([wu8 v35] : List Int)) fun q56 =>
    some (w64 (v33 + (ln y39)), true, q56)) (
    some (v33, v34, v31))) fun (z38 : Int × Bool × (List Int)) =>
    r40_quoted_L2 m s kk z38.2.2 z38.1 z38.2.1 (w64 (v35 + 1))) (
    some (v33, v34, v31))
def r40_quoted_L1 (m : Nat) (s : Str) : Nat → (List Int) → Int → Option (Sum (Str × Str × Bool) (Unit))
  | 0, _, _ => none
  | kk + 1, v15, v17 =>
    cond (decide (v17 < (ln s))) (
    chk (0 ≤ v17 ∧ v17 < ln s) <|
    cond ((bat s v17) == 34) (
    chk (0 ≤ (w64 (v17 + 1)) ∧ (w64 (v17 + 1)) ≤ ln s) <|
    some (.inl (toB v15, sub s (w64 (v17 + 1)) (ln s), true))) (
    Option.bind (
    r40_quoted_L2 m s m v15 v17 false 0) fun (z28 : Int × Bool × (List Int)) =>
    cond (!z28.2.1) (
    some (.inl ([], [], false))) (
    r40_quoted_L1 m s kk z28.2.2 z28.1))) (
    some (.inr ()))
def r40_quoted (m : Nat) (s : Str) : Option (Str × Str × Bool) :=
  chk (((ln s) == 0) = false → 0 ≤ (0 : Int) ∧ (0 : Int) < ln s) <|
  lt (cond ((ln s) == 0) true ((bat s 0) != 34)) fun x4 =>
  cond x4 (
  some ([], [], false)) (
  Option.bind (
  r40_quoted_L1 m s m ([] : List Int) 1) fun (z11 : Sum (Str × Str × Bool) (Unit)) => sumK z11 fun s_z11 =>
  some ([], [], false))
def r40_ReadLine_L1 (m : Nat)  : Nat → Str → (List Str) → Option (Sum (TAnswer × Int) (Str × (List Str)))
  | 0, _, _ => none
  | kk + 1, v39, v40 =>
    chk ((decide (0 < (ln v39))) = true → 0 ≤ (0 : Int) ∧ (0 : Int) < ln v39) <|
    lt (cond (decide (0 < (ln v39))) ((bat v39 0) == 34) false) fun x43 =>
    cond (cond x43 (decide ((ln v40) ≤ 64)) false) (
    Option.bind (r40_quoted m v39) fun y46 =>
    cond (!y46.2.2) (
    some (.inl ((TAnswer.mk 0 0 ([] : List Str) ([] : List Int)), 12))) (
    chk (ln v40 + ln ([y46.1] : List Str) ≤ 1099511627776) <|
    lt (v40 ++ ([y46.1] : List Str)) fun q66 =>
    chk ((decide (0 < (ln y46.2.1))) = true → 0 ≤ (0 : Int) ∧ (0 : Int) < ln y46.2.1) <|
    lt (cond (decide (0 < (ln y46.2.1))) ((bat y46.2.1 0) == 44) false) fun x77 =>
    cond x77 (
    Option.bind (r40_after y46.2.1 2) fun y80 =>
    r40_ReadLine_L1 m  kk y80 q66) (
    r40_ReadLine_L1 m  kk y46.2.1 q66))) (
    some (.inr (v39, v40)))
def r40_ReadLine_L2 (m : Nat)  : Nat → Str → (List Int) → Option (List Int)
  | 0, _, _ => none
  | kk + 1, v94, v95 =>
    lt (cond (decide (1 < (ln v94))) (decide ((ln v95) ≤ 64)) false) fun x97 =>
    cond x97 (
    chk (ln v95 + ln ([0] : List Int) ≤ 1099511627776) <|
    lt (v95 ++ ([0] : List Int)) fun q107 =>
    Option.bind (r40_number m v94) fun y116 =>
    chk (0 ≤ (w64 ((ln q107) - 1)) ∧ (w64 ((ln q107) - 1)) < ln q107) <|
    lt (setl q107 (w64 ((ln q107) - 1)) y116.1) fun q119 =>
    chk ((decide (0 < (ln y116.2))) = true → 0 ≤ (0 : Int) ∧ (0 : Int) < ln y116.2) <|
    lt (cond (decide (0 < (ln y116.2))) ((bat y116.2 0) == 44) false) fun x125 =>
    cond x125 (
    Option.bind (r40_after y116.2 2) fun y128 =>
    r40_ReadLine_L2 m  kk y128 q119) (
    some q119)) (
    some v95)
def r40_ReadLine (m : Nat) (s : Str) : Option (TAnswer × Int) :=
  cond (decide (90000 < (ln s))) (
  some ((TAnswer.mk 0 0 ([] : List Str) ([] : List Int)), 28)) (
  Option.bind (r40_number m s) fun y19 =>
  Option.bind (r40_after y19.2 1) fun y26 =>
  Option.bind (r40_number m y26) fun y27 =>
  Option.bind (r40_after y27.2 2) fun y34 =>
  Option.bind (
  r40_ReadLine_L1 m  m y34 ([] : List Str)) fun (z37 : Sum (TAnswer × Int) (Str × (List Str))) => sumK z37 fun s_z37 =>
  Option.bind (r40_after s_z37.1 3) fun y89 =>
  Option.bind (
  r40_ReadLine_L2 m  m y89 ([] : List Int)) fun (z92 : List Int) =>
  Option.bind (r40_Check m (TAnswer.mk y19.1 y27.1 s_z37.2 z92)) fun y136 =>
  Option.bind (cond (y136 != 0) (some default) (r40_Shown m (TAnswer.mk y19.1 y27.1 s_z37.2 z92))) fun y137 =>
  cond (cond (y136 != 0) true (!(y137 == s))) (
  some ((TAnswer.mk 0 0 ([] : List Str) ([] : List Int)), 12)) (
  some ((TAnswer.mk y19.1 y27.1 s_z37.2 z92), 0)))
def r40_ReadText_L1 (m : Nat) (y10 : (List Str) × Bool) : Nat → (List TAnswer) → Int → Option (Sum ((List TAnswer) × Int) (List TAnswer))
  | 0, _, _ => none
  | kk + 1, v29, v31 =>
    cond (decide (v31 < (ln y10.1))) (
    chk (0 ≤ v31 ∧ v31 < ln y10.1) <|
    Option.bind (r40_ReadLine m (gi y10.1 v31)) fun y37 =>
    cond (y37.2 != 0) (
    some (.inl (([] : List TAnswer), 12))) (
    chk (ln v29 + ln ([y37.1] : List TAnswer) ≤ 1099511627776) <|
    lt (v29 ++ ([y37.1] : List TAnswer)) fun q65 =>
    r40_ReadText_L1 m y10 kk q65 (w64 (v31 + 1)))) (
    some (.inr v29))
def r40_ReadText (m : Nat) (s : Str) : Option ((List TAnswer) × Int) :=
  cond (decide (5400000 < (ln s))) (
  some (([] : List TAnswer), 28)) (
  Option.bind (r40_Split m s) fun y10 =>
  lt (cond (!y10.2) true (decide (60 < (ln y10.1)))) fun x17 =>
  cond x17 (
  some (([] : List TAnswer), 12)) (
  Option.bind (
  r40_ReadText_L1 m y10 m ([] : List TAnswer) 0) fun (z25 : Sum ((List TAnswer) × Int) (List TAnswer)) => sumK z25 fun s_z25 =>
  some (s_z25, 0)))
def slices_Equal_string_string_L1 (m : Nat) (s1 : List Str) (s2 : List Str) : Nat → Int → Option (Sum (Bool) (Unit))
  | 0, _ => none
  | kk + 1, v10 =>
    cond (decide (v10 < (ln s1))) (
    chk (0 ≤ v10 ∧ v10 < ln s1) <|
    chk (0 ≤ v10 ∧ v10 < ln s2) <|
    cond (!((gi s1 v10) == (gi s2 v10))) (
    some (.inl false)) (
    slices_Equal_string_string_L1 m s1 s2 kk (w64 (v10 + 1)))) (
    some (.inr ()))
def slices_Equal_string_string (m : Nat) (s1 : List Str) (s2 : List Str) : Option (Bool) :=
  cond ((ln s1) != (ln s2)) (
  some false) (
  Option.bind (
  slices_Equal_string_string_L1 m s1 s2 m 0) fun (z7 : Sum (Bool) (Unit)) => sumK z7 fun s_z7 =>
  some true)
def slices_Equal_int_int_L1 (m : Nat) (s1 : List Int) (s2 : List Int) : Nat → Int → Option (Sum (Bool) (Unit))
  | 0, _ => none
  | kk + 1, v10 =>
    cond (decide (v10 < (ln s1))) (
    chk (0 ≤ v10 ∧ v10 < ln s1) <|
    chk (0 ≤ v10 ∧ v10 < ln s2) <|
    cond ((gi s1 v10) != (gi s2 v10)) (
    some (.inl false)) (
    slices_Equal_int_int_L1 m s1 s2 kk (w64 (v10 + 1)))) (
    some (.inr ()))
def slices_Equal_int_int (m : Nat) (s1 : List Int) (s2 : List Int) : Option (Bool) :=
  cond ((ln s1) != (ln s2)) (
  some false) (
  Option.bind (
  slices_Equal_int_int_L1 m s1 s2 m 0) fun (z7 : Sum (Bool) (Unit)) => sumK z7 fun s_z7 =>
  some true)
def answer_same (m : Nat) (a_ : TAnswer) (b_ : TAnswer) : Option (Bool) :=
  lt (cond (a_.Err == b_.Err) (a_.Num == b_.Num) false) fun x9 =>
  Option.bind (cond x9 (slices_Equal_string_string m a_.Texts b_.Texts) (some default)) fun y10 =>
  Option.bind (cond (cond x9 y10 false) (slices_Equal_int_int m a_.Numbers b_.Numbers) (some default)) fun y11 =>
  some (cond (cond x9 y10 false) y11 false)
def answer_First_L1 (m : Nat) (a_ : List TAnswer) (b_ : List TAnswer) : Nat → Int → Option (Sum (Int × Int) (Unit))
  | 0, _ => none
  | kk + 1, v22 =>
    lt (decide (v22 < (if ln b_ < ln a_ then ln b_ else ln a_))) fun x23 =>
    cond x23 (
    chk (0 ≤ v22 ∧ v22 < ln a_) <|
    chk (0 ≤ v22 ∧ v22 < ln b_) <|
    Option.bind (answer_same m (gi a_ v22) (gi b_ v22)) fun y30 =>
    cond (!y30) (
    some (.inl (v22, 0))) (
    answer_First_L1 m a_ b_ kk (w64 (v22 + 1)))) (
    some (.inr ()))
def answer_First (m : Nat) (a_ : List TAnswer) (b_ : List TAnswer) : Option (Int × Int) :=
  Option.bind (answer_check m a_) fun y3 =>
  cond (y3 != 0) (
  some (0, y3)) (
  Option.bind (answer_check m b_) fun y10 =>
  cond (y10 != 0) (
  some (0, y10)) (
  Option.bind (
  answer_First_L1 m a_ b_ m 0) fun (z19 : Sum (Int × Int) (Unit)) => sumK z19 fun s_z19 =>
  cond ((ln a_) == (ln b_)) (
  some (0, 6)) (
  some (if ln b_ < ln a_ then ln b_ else ln a_, 0))))
def r40_Same_L1 (m : Nat) (a_ : TAnswer) (b_ : TAnswer) : Nat → Int → Option (Sum (Bool) (Unit))
  | 0, _ => none
  | kk + 1, v19 =>
    cond (decide (v19 < (ln a_.Texts))) (
    chk (0 ≤ v19 ∧ v19 < ln a_.Texts) <|
    chk (0 ≤ v19 ∧ v19 < ln b_.Texts) <|
    lt (!((gi a_.Texts v19) == (gi b_.Texts v19))) fun x24 =>
    cond x24 (
    some (.inl false)) (
    r40_Same_L1 m a_ b_ kk (w64 (v19 + 1)))) (
    some (.inr ()))
def r40_Same_L2 (m : Nat) (a_ : TAnswer) (b_ : TAnswer) : Nat → Int → Option (Sum (Bool) (Unit))
  | 0, _ => none
  | kk + 1, v37 =>
    cond (decide (v37 < (ln a_.Numbers))) (
    chk (0 ≤ v37 ∧ v37 < ln a_.Numbers) <|
    chk (0 ≤ v37 ∧ v37 < ln b_.Numbers) <|
    lt ((gi a_.Numbers v37) != (gi b_.Numbers v37)) fun x42 =>
    cond x42 (
    some (.inl false)) (
    r40_Same_L2 m a_ b_ kk (w64 (v37 + 1)))) (
    some (.inr ()))
def r40_Same (m : Nat) (a_ : TAnswer) (b_ : TAnswer) : Option (Bool) :=
  lt (cond (a_.Err != b_.Err) true (a_.Num != b_.Num)) fun x9 =>
  lt (cond x9 true ((ln a_.Texts) != (ln b_.Texts))) fun x10 =>
  lt (cond x10 true ((ln a_.Numbers) != (ln b_.Numbers))) fun x11 =>
  cond x11 (
  some false) (
  Option.bind (
  r40_Same_L1 m a_ b_ m 0) fun (z16 : Sum (Bool) (Unit)) => sumK z16 fun s_z16 =>
  Option.bind (
  r40_Same_L2 m a_ b_ m 0) fun (z34 : Sum (Bool) (Unit)) => sumK z34 fun s_z34 =>
  some true)
def r40_First_L1 (m : Nat) (a_ : List TAnswer) (b_ : List TAnswer) : Nat → Int → Option (Sum (Int × Int) (Unit))
  | 0, _ => none
  | kk + 1, v20 =>
    lt (cond (decide (v20 < (ln a_))) true (decide (v20 < (ln b_)))) fun x21 =>
    cond x21 (
    lt (cond (decide ((ln a_) ≤ v20)) true (decide ((ln b_) ≤ v20))) fun x24 =>
    chk (x24 = false → 0 ≤ v20 ∧ v20 < ln a_) <|
    chk (x24 = false → 0 ≤ v20 ∧ v20 < ln b_) <|
    Option.bind (cond x24 (some default) (r40_Same m (gi a_ v20) (gi b_ v20))) fun y27 =>
    cond (cond x24 true (!y27)) (
    some (.inl (v20, 0))) (
    r40_First_L1 m a_ b_ kk (w64 (v20 + 1)))) (
    some (.inr ()))
def r40_First (m : Nat) (a_ : List TAnswer) (b_ : List TAnswer) : Option (Int × Int) :=
  Option.bind (r40_Log m a_) fun y3 =>
  cond (y3 != 0) (
  some (0, y3)) (
  Option.bind (r40_Log m b_) fun y10 =>
  cond (y10 != 0) (
  some (0, y10)) (
  Option.bind (
  r40_First_L1 m a_ b_ m 0) fun (z17 : Sum (Int × Int) (Unit)) => sumK z17 fun s_z17 =>
  some (0, 6)))
def r40_SameAll_L1 (m : Nat) (a_ : List TAnswer) (b_ : List TAnswer) : Nat → Int → Option (Sum (Bool) (Unit))
  | 0, _ => none
  | kk + 1, v10 =>
    cond (decide (v10 < (ln a_))) (
    chk (0 ≤ v10 ∧ v10 < ln a_) <|
    chk (0 ≤ v10 ∧ v10 < ln b_) <|
    Option.bind (r40_Same m (gi a_ v10) (gi b_ v10)) fun y15 =>
    cond (!y15) (
    some (.inl false)) (
    r40_SameAll_L1 m a_ b_ kk (w64 (v10 + 1)))) (
    some (.inr ()))
def r40_SameAll (m : Nat) (a_ : List TAnswer) (b_ : List TAnswer) : Option (Bool) :=
  cond ((ln a_) != (ln b_)) (
  some false) (
  Option.bind (
  r40_SameAll_L1 m a_ b_ m 0) fun (z7 : Sum (Bool) (Unit)) => sumK z7 fun s_z7 =>
  some true)
def law40_AnswerTexts (m : Nat) (l_ : List TAnswer) (m_ : List TAnswer) (s : Str) : Option (Bool) :=
  Option.bind (r40_Great m l_) fun y3 =>
  Option.bind (cond y3 (some default) (r40_Great m m_)) fun y4 =>
  lt (cond (cond y3 true y4) true (cond (decide (4000 < (ln s))) (decide ((ln s) ≤ 5400000)) false)) fun x5 =>
  cond (cond x5 true (decide (5400100 < (ln s)))) (
  some true) (
  Option.bind (answer_Text m l_) fun y10 =>
  Option.bind (r40_Text m l_) fun y13 =>
  Option.bind (answer_ReadText m s) fun y18 =>
  Option.bind (r40_ReadText m s) fun y27 =>
  Option.bind (answer_First m l_ m_) fun y34 =>
  Option.bind (r40_First m l_ m_) fun y37 =>
  lt (cond (y10.1 == y13.1) (y10.2 == y13.2) false) fun x40 =>
  Option.bind (cond x40 (r40_SameAll m y18.1 y27.1) (some default)) fun y41 =>
  lt (cond (cond x40 y41 false) (y18.2 == y27.2) false) fun x42 =>
  lt (cond (cond x42 (y34.1 == y37.1) false) (y34.2 == y37.2) false) fun x43 =>
  some x43)
end Go.Proofs.YtipafpkdkhnjmaaGreatDoor

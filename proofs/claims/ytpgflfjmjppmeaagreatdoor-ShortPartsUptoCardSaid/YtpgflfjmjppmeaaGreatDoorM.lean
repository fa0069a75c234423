/-
 What the Go functions compute, as Lean functions.
-/
import Derived.Test.YtpgflfjmjppmeaaGreatDoorVP
import Derived.Test.YtpgflfjmjppmeaaGreatDoorRU
import Derived.Test.YtpgflfjmjppmeaaGreatDoorX
import Derived.Test.YtpgflfjmjppmeaaGreatDoorMP
import Derived.Test.YtpgflfjmjppmeaaGreatDoorCO
set_option linter.unusedVariables false
set_option maxRecDepth 20000
set_option maxHeartbeats 4000000
namespace Go.Proofs.YtpgflfjmjppmeaaGreatDoor
open Go.V Go.RowKit
def gl_math_bits_deBruijn32tab : List Int := [0, 1, 28, 2, 29, 14, 24, 3, 30, 22, 20, 15, 25, 17, 4, 8, 31, 27, 13, 23, 21, 19, 16, 7, 26, 12, 18, 6, 11, 5, 10, 9]
def gl_math_bits_deBruijn64tab : List Int := [0, 1, 56, 2, 57, 49, 28, 3, 61, 58, 42, 50, 38, 29, 17, 4, 62, 47, 59, 36, 45, 43, 51, 22, 53, 39, 33, 30, 24, 18, 12, 5, 63, 55, 48, 27, 60, 41, 37, 16, 46, 35, 44, 21, 52, 32, 23, 11, 54, 26, 40, 15, 34, 20, 31, 10, 25, 14, 19, 9, 13, 8, 7, 6]
def gl_strings_asciiSpace : List Int := [0, 0, 0, 0, 0, 0, 0, 0, 0, 1, 1, 1, 1, 1, 0, 0, 0, 0, 0, 0, 0, 0, 0, 0, 0, 0, 0, 0, 0, 0, 0, 0, 1, 0, 0, 0, 0, 0, 0, 0, 0, 0, 0, 0, 0, 0, 0, 0, 0, 0, 0, 0, 0, 0, 0, 0, 0, 0, 0, 0, 0, 0, 0, 0, 0, 0, 0, 0, 0, 0, 0, 0, 0, 0, 0, 0, 0, 0, 0, 0, 0, 0, 0, 0, 0, 0, 0, 0, 0, 0, 0, 0, 0, 0, 0, 0, 0, 0, 0, 0, 0, 0, 0, 0, 0, 0, 0, 0, 0, 0, 0, 0, 0, 0, 0, 0, 0, 0, 0, 0, 0, 0, 0, 0, 0, 0, 0, 0, 0, 0, 0, 0, 0, 0, 0, 0, 0, 0, 0, 0, 0, 0, 0, 0, 0, 0, 0, 0, 0, 0, 0, 0, 0, 0, 0, 0, 0, 0, 0, 0, 0, 0, 0, 0, 0, 0, 0, 0, 0, 0, 0, 0, 0, 0, 0, 0, 0, 0, 0, 0, 0, 0, 0, 0, 0, 0, 0, 0, 0, 0, 0, 0, 0, 0, 0, 0, 0, 0, 0, 0, 0, 0, 0, 0, 0, 0, 0, 0, 0, 0, 0, 0, 0, 0, 0, 0, 0, 0, 0, 0, 0, 0, 0, 0, 0, 0, 0, 0, 0, 0, 0, 0, 0, 0, 0, 0, 0, 0, 0, 0, 0, 0, 0, 0, 0, 0, 0, 0, 0, 0, 0, 0, 0, 0, 0, 0]
structure TToken where
 Kind : Int
 Text : Str
 Num : Int
 Unit : Str
 Flag : Bool
instance : Inhabited TToken := ⟨⟨default, default, default, default, default⟩⟩
inductive TValue where
 | mk (Token : TToken) (List_ : List TValue)
def TValue.Token : TValue → TToken
 | .mk x _ => x
def TValue.List_ : TValue → List TValue
 | .mk _ x => x
instance : Inhabited TValue := ⟨.mk default default⟩
def r04_Size_L1 (m : Nat) (v_ : List TValue) (most : Int) (rec_r04_Size : (List TValue) → Int → Option (Int)) : Nat → Int → Int → Option (Int)
 | 0, _, _ => none
 | kk + 1, v8, v9 =>
  lt (cond (decide (v9 < (ln v_))) (decide (v8 ≤ most)) false) fun x10 =>
  cond x10 (
  chk (0 ≤ v9 ∧ v9 < ln v_) <|
  lt (w64 ((w64 (1 + (ln ((gi v_ v9).Token.Text)))) + (ln ((gi v_ v9).Token.Unit)))) fun x14 =>
  Option.bind (rec_r04_Size ((gi v_ v9).List_) (w64 (most - v8))) fun y15 =>
  r04_Size_L1 m v_ most rec_r04_Size kk (w64 (v8 + (w64 (x14 + y15)))) (w64 (v9 + 1))) (
  some v8)
def r04_Size_r (m : Nat) : Nat → (List TValue) → Int → Option (Int)
 | 0, _, _ => none
 | k + 1, v_, most =>
  Option.bind (
  r04_Size_L1 m v_ most (r04_Size_r m k) m 0 0) fun (z5 : Int) =>
  some z5
def r04_Size (m : Nat) (v_ : List TValue) (most : Int) : Option (Int) := r04_Size_r m  m v_ most
def r04_Closer (kind : Int) : Int :=
 cond (kind == 19) (
 20) (
 lt (
 cond (kind == 21) (
 kind == 21) (
 kind == 2)) fun (z9 : Bool) =>
 cond z9 (
 22) (
 cond (kind == 23) (
 24) (
 0)))
def r04_Deep_L1 (m : Nat) (v_ : List TValue) (rec_r04_Deep : (List TValue) → Option (Int)) : Nat → Int → Int → Option (Int)
 | 0, _, _ => none
 | kk + 1, v8, v9 =>
  cond (decide (v9 < (ln v_))) (
  Option.bind (
  chk (0 ≤ v9 ∧ v9 < ln v_) <|
  lt ((r04_Closer ((gi v_ v9).Token.Kind)) != 0) fun x14 =>
  cond x14 (
  Option.bind (rec_r04_Deep ((gi v_ v9).List_)) fun y17 =>
  lt (if v8 < w64 (1 + y17) then w64 (1 + y17) else v8) fun x18 =>
  some x18) (
  some v8)) fun (z12 : Int) =>
  r04_Deep_L1 m v_ rec_r04_Deep kk z12 (w64 (v9 + 1))) (
  some v8)
def r04_Deep_r (m : Nat) : Nat → (List TValue) → Option (Int)
 | 0, _ => none
 | k + 1, v_ =>
  Option.bind (
  r04_Deep_L1 m v_ (r04_Deep_r m k) m 0 0) fun (z5 : Int) =>
  some z5
def r04_Deep (m : Nat) (v_ : List TValue) : Option (Int) := r04_Deep_r m  m v_
def r04_Great (m : Nat) (v_ : List TValue) : Option (Bool) :=
 Option.bind (r04_Size m v_ 300) fun y3 =>
 Option.bind (cond (decide (300 < y3)) (some default) (r04_Deep m v_)) fun y4 =>
 lt (cond (decide (300 < y3)) true (decide (40 < y4))) fun x5 =>
 some x5
def short_Names  : List Str :=
 ([[109, 97, 114, 103, 105, 110], [98, 111, 114, 100, 101, 114], [111, 117, 116, 108, 105, 110, 101], [98, 97, 99, 107, 103, 114, 111, 117, 110, 100]] : List Str)
def slices_Index_string_string_L1 (m : Nat) (s : List Str) (v_ : Str) : Nat → Int → Option (Sum (Int) (Unit))
 | 0, _ => none
 | kk + 1, v6 =>
  cond (decide (v6 < (ln s))) (
  chk (0 ≤ v6 ∧ v6 < ln s) <|
  cond (v_ == (gi s v6)) (
  some (.inl v6)) (
  slices_Index_string_string_L1 m s v_ kk (w64 (v6 + 1)))) (
  some (.inr ()))
def slices_Index_string_string (m : Nat) (s : List Str) (v_ : Str) : Option (Int) :=
 Option.bind (
 slices_Index_string_string_L1 m s v_ m 0) fun (z3 : Sum (Int) (Unit)) => sumK z3 fun s_z3 =>
 some (-1)
def slices_Contains_string_string (m : Nat) (s : List Str) (v_ : Str) : Option (Bool) :=
 Option.bind (slices_Index_string_string m s v_) fun y3 =>
 some (decide (0 ≤ y3))
def short_of_L1 (m : Nat) (name_ : Str) : Nat → (List Str) → Int → Option (List Str)
 | 0, _, _ => none
 | kk + 1, v36, v38 =>
  cond (decide (v38 < 4)) (
  chk (0 ≤ v38 ∧ v38 < ln ([[116, 111, 112], [114, 105, 103, 104, 116], [98, 111, 116, 116, 111, 109], [108, 101, 102, 116]] : List Str)) <|
  lt ((gi ([[116, 111, 112], [114, 105, 103, 104, 116], [98, 111, 116, 116, 111, 109], [108, 101, 102, 116]] : List Str) v38)) fun x42 =>
  chk (ln name_ + ln [45] ≤ 9223372036854775807) <|
  chk (ln (name_ ++ [45]) + ln x42 ≤ 9223372036854775807) <|
  chk (ln v36 + ln ([(name_ ++ [45]) ++ x42] : List Str) ≤ 1099511627776) <|
  lt (v36 ++ ([(name_ ++ [45]) ++ x42] : List Str)) fun q54 =>
  short_of_L1 m name_ kk q54 (w64 (v38 + 1))) (
  some v36)
def short_of (m : Nat) (name_ : Str) : Option (List Str) :=
 lt (short_Names) fun y3 =>
 Option.bind (slices_Contains_string_string 64 y3 name_) fun y8 =>
 cond (!y8) (
 some ([] : List Str)) (
 lt (!(name_ == [109, 97, 114, 103, 105, 110])) fun x14 =>
 cond x14 (
 chk (ln name_ + ln [45, 99, 111, 108, 111, 114] ≤ 9223372036854775807) <|
 some ([name_ ++ [45, 99, 111, 108, 111, 114]] : List Str)) (
 Option.bind (
 short_of_L1 m name_ m ([] : List Str) 0) fun (z28 : List Str) =>
 some z28))
def stringslite_HasPrefix (s : Str) (prefix_ : Str) : Option (Bool) :=
 chk ((decide ((ln prefix_) ≤ (ln s))) = true → 0 ≤ (ln prefix_) ∧ (ln prefix_) ≤ ln s) <|
 lt (cond (decide ((ln prefix_) ≤ (ln s))) ((sub s 0 (ln prefix_)) == prefix_) false) fun x4 =>
 some x4
def strings_HasPrefix (s : Str) (prefix_ : Str) : Option (Bool) :=
 Option.bind (stringslite_HasPrefix s prefix_) fun y3 =>
 some y3
def props_Custom (name_ : Str) : Option (Bool) :=
 Option.bind (strings_HasPrefix name_ [45, 45]) fun y3 =>
 lt (cond (cond y3 (decide (2 < (ln name_))) false) (decide ((ln name_) ≤ 64)) false) fun x4 =>
 some x4
structure TColor where
 Red : Int
 Green : Int
 Blue : Int
 Alpha : Int
instance : Inhabited TColor := ⟨⟨default, default, default, default⟩⟩
structure TVal where
 Kind : Int
 Word : Str
 Num : Int
 Color : TColor
instance : Inhabited TVal := ⟨⟨default, default, default, default⟩⟩
def props_word (s : Str) : TVal :=
 (TVal.mk 1 s 0 (TColor.mk 0 0 0 0))
structure TProp where
 Name : Str
 Inherited : Bool
 Initial : TVal
 Words : List Str
 Kinds : List Int
 Least : Bool
instance : Inhabited TProp := ⟨⟨default, default, default, default, default, default⟩⟩
def props_color (name_ : Str) (inherited : Bool) (first : TVal) : TProp :=
 (TProp.mk name_ inherited first ([] : List Str) ([7, 8] : List Int) false)
structure Tstrings_span where
 start : Int
 end_ : Int
instance : Inhabited Tstrings_span := ⟨⟨default, default⟩⟩
def strings_Fields_L1 (m : Nat) (s : Str) : Nat → Int → Int → Int → Int → Option (Int × Int)
 | 0, _, _, _, _ => none
 | kk + 1, v12, v13, v14, v15 =>
  cond (decide (v15 < (ln s))) (
  chk (0 ≤ v15 ∧ v15 < ln s) <|
  chk (0 ≤ (bat s v15) ∧ (bat s v15) < (256 : Int)) <|
  lt (w64 (gi gl_strings_asciiSpace (bat s v15))) fun x24 =>
  lt (ibit .and .i64 v13 (ibit .xor .i64 (-1) x24)) fun x27 =>
  strings_Fields_L1 m s kk (w64 (v12 + x27)) x24 (ibit .or .u8 v14 (bat s v15)) (w64 (v15 + 1))) (
  some (v12, v14))
def strings_Fields_L2 (m : Nat) (s : Str) : Nat → Int → Option (Int)
 | 0, _ => none
 | kk + 1, v55 =>
  chk ((decide (v55 < (ln s))) = true → 0 ≤ v55 ∧ v55 < ln s) <|
  chk ((decide (v55 < (ln s))) = true → 0 ≤ (bat s v55) ∧ (bat s v55) < (256 : Int)) <|
  lt (cond (decide (v55 < (ln s))) ((gi gl_strings_asciiSpace (bat s v55)) != 0) false) fun x58 =>
  cond x58 (
  strings_Fields_L2 m s kk (w64 (v55 + 1))) (
  some v55)
def strings_Fields_L4 (m : Nat) (s : Str) : Nat → Int → Option (Int)
 | 0, _ => none
 | kk + 1, v95 =>
  chk ((decide (v95 < (ln s))) = true → 0 ≤ v95 ∧ v95 < ln s) <|
  chk ((decide (v95 < (ln s))) = true → 0 ≤ (bat s v95) ∧ (bat s v95) < (256 : Int)) <|
  lt (cond (decide (v95 < (ln s))) ((gi gl_strings_asciiSpace (bat s v95)) != 0) false) fun x98 =>
  cond x98 (
  strings_Fields_L4 m s kk (w64 (v95 + 1))) (
  some v95)
def strings_Fields_L3 (m : Nat) (s : Str) : Nat → (List Str) → Int → Int → Int → Option (Int × Int × (List Str))
 | 0, _, _, _, _ => none
 | kk + 1, v68, v70, v71, v72 =>
  cond (decide (v72 < (ln s))) (
  chk (0 ≤ v72 ∧ v72 < ln s) <|
  chk (0 ≤ (bat s v72) ∧ (bat s v72) < (256 : Int)) <|
  lt ((gi gl_strings_asciiSpace (bat s v72)) == 0) fun x77 =>
  cond x77 (
  strings_Fields_L3 m s kk v68 v70 v71 (w64 (v72 + 1))) (
  chk (0 ≤ v71 ∧ v71 ≤ v72 ∧ v72 ≤ ln s) <|
  chk (0 ≤ v70 ∧ v70 < ln v68) <|
  lt (setl v68 v70 (sub s v71 v72)) fun q89 =>
  Option.bind (
  strings_Fields_L4 m s m (w64 (v72 + 1))) fun (z94 : Int) =>
  strings_Fields_L3 m s kk q89 (w64 (v70 + 1)) z94 z94)) (
  some (v70, v71, v68))
def strings_Fields (m : Nat) (s : Str) : Option (List Str) :=
 Option.bind (
 strings_Fields_L1 m s m 0 1 0 0) fun (z9 : Int × Int) =>
 cond (decide (128 ≤ z9.2)) (
 none) (
 chk (0 ≤ z9.1 ∧ z9.1 ≤ z9.1 ∧ z9.1 ≤ 1099511627776) <|
 lt (List.replicate (z9.1).toNat ([] : Str)) fun q41 =>
 Option.bind (
 strings_Fields_L2 m s m 0) fun (z54 : Int) =>
 Option.bind (
 strings_Fields_L3 m s m q41 0 z54 z54) fun (z67 : Int × Int × (List Str)) =>
 Option.bind (
 cond (decide (z67.2.1 < (ln s))) (
 chk (0 ≤ z67.2.1 ∧ z67.2.1 ≤ ln s) <|
 chk (0 ≤ z67.1 ∧ z67.1 < ln z67.2.2) <|
 lt (setl z67.2.2 z67.1 (sub s z67.2.1 (ln s))) fun q122 =>
 some q122) (
 some z67.2.2)) fun (z112 : List Str) =>
 some z112)
def props_words (m : Nat) (name_ : Str) (inherited : Bool) (first : Str) (all_ : Str) : Option (TProp) :=
 lt (props_word first) fun y4 =>
 Option.bind (strings_Fields m all_) fun y7 =>
 some (TProp.mk name_ inherited y4 y7 ([] : List Int) false)
def props_length (m : Nat) (name_ : Str) (inherited : Bool) (first : TVal) (all_ : Str) (least : Bool) (more : List Int) : Option (TProp) :=
 Option.bind (strings_Fields m all_) fun y8 =>
 chk (ln ([2, 3, 4] : List Int) + ln more ≤ 1099511627776) <|
 lt (([2, 3, 4] : List Int) ++ more) fun q14 =>
 some (TProp.mk name_ inherited first y8 q14 least)
def props_Table_L1 (m : Nat)  : Nat → (List TProp) → Int → Option (List TProp)
 | 0, _, _ => none
 | kk + 1, v88, v90 =>
  cond (decide (v90 < 4)) (
  chk (0 ≤ v90 ∧ v90 < ln ([[116, 111, 112], [114, 105, 103, 104, 116], [98, 111, 116, 116, 111, 109], [108, 101, 102, 116]] : List Str)) <|
  lt ((gi ([[116, 111, 112], [114, 105, 103, 104, 116], [98, 111, 116, 116, 111, 109], [108, 101, 102, 116]] : List Str) v90)) fun x94 =>
  chk (ln [109, 97, 114, 103, 105, 110, 45] + ln x94 ≤ 9223372036854775807) <|
  Option.bind (props_length m ([109, 97, 114, 103, 105, 110, 45] ++ x94) false (TVal.mk 2 [] 0 (TColor.mk 0 0 0 0)) [97, 117, 116, 111] false []) fun y101 =>
  chk (ln v88 + ln ([y101] : List TProp) ≤ 1099511627776) <|
  lt (v88 ++ ([y101] : List TProp)) fun q113 =>
  props_Table_L1 m  kk q113 (w64 (v90 + 1))) (
  some v88)
def props_Table (m : Nat)  : Option (List TProp) :=
 lt (props_word [97, 117, 116, 111]) fun y3 =>
 lt (props_color [99, 111, 108, 111, 114] true (TVal.mk 7 [] 0 (TColor.mk 0 0 0 255))) fun y17 =>
 lt (props_color [98, 97, 99, 107, 103, 114, 111, 117, 110, 100, 45, 99, 111, 108, 111, 114] false (TVal.mk 7 [] 0 (TColor.mk 0 0 0 0))) fun y22 =>
 lt (props_color [98, 111, 114, 100, 101, 114, 45, 99, 111, 108, 111, 114] false (TVal.mk 8 [] 0 (TColor.mk 0 0 0 0))) fun y27 =>
 lt (props_color [111, 117, 116, 108, 105, 110, 101, 45, 99, 111, 108, 111, 114] false (TVal.mk 8 [] 0 (TColor.mk 0 0 0 0))) fun y32 =>
 Option.bind (props_words m [100, 105, 115, 112, 108, 97, 121] false [105, 110, 108, 105, 110, 101] [98, 108, 111, 99, 107, 32, 102, 108, 101, 120, 32, 105, 110, 108, 105, 110, 101, 32, 105, 110, 108, 105, 110, 101, 45, 98, 108, 111, 99, 107, 32, 110, 111, 110, 101]) fun y37 =>
 Option.bind (props_words m [118, 105, 115, 105, 98, 105, 108, 105, 116, 121] true [118, 105, 115, 105, 98, 108, 101] [99, 111, 108, 108, 97, 112, 115, 101, 32, 104, 105, 100, 100, 101, 110, 32, 118, 105, 115, 105, 98, 108, 101]) fun y42 =>
 Option.bind (props_length m [119, 105, 100, 116, 104] false y3 [97, 117, 116, 111] true []) fun y48 =>
 Option.bind (props_length m [104, 101, 105, 103, 104, 116] false y3 [97, 117, 116, 111] true []) fun y54 =>
 Option.bind (
 props_Table_L1 m  m ([y17, y22, y27, y32, y37, y42, y48, y54] : List TProp) 0) fun (z81 : List TProp) =>
 Option.bind (props_length m [102, 111, 110, 116, 45, 115, 105, 122, 101] true (TVal.mk 2 [] 16000 (TColor.mk 0 0 0 0)) [] true []) fun y126 =>
 lt (props_word [110, 111, 114, 109, 97, 108]) fun y131 =>
 Option.bind (props_length m [108, 105, 110, 101, 45, 104, 101, 105, 103, 104, 116] true y131 [110, 111, 114, 109, 97, 108] true ([5] : List Int)) fun y134 =>
 Option.bind (props_words m [116, 101, 120, 116, 45, 97, 108, 105, 103, 110] true [108, 101, 102, 116] [99, 101, 110, 116, 101, 114, 32, 106, 117, 115, 116, 105, 102, 121, 32, 108, 101, 102, 116, 32, 114, 105, 103, 104, 116]) fun y139 =>
 chk (ln z81 + ln ([y126, y134, y139, (TProp.mk [111, 112, 97, 99, 105, 116, 121] false (TVal.mk 5 [] 1000 (TColor.mk 0 0 0 0)) [] ([5] : List Int) false), (TProp.mk [122, 45, 105, 110, 100, 101, 120] false y3 ([[97, 117, 116, 111]] : List Str) ([6] : List Int) false), (TProp.mk [111, 114, 100, 101, 114] false (TVal.mk 6 [] 0 (TColor.mk 0 0 0 0)) [] ([6] : List Int) false)] : List TProp) ≤ 1099511627776) <|
 lt (z81 ++ ([y126, y134, y139, (TProp.mk [111, 112, 97, 99, 105, 116, 121] false (TVal.mk 5 [] 1000 (TColor.mk 0 0 0 0)) [] ([5] : List Int) false), (TProp.mk [122, 45, 105, 110, 100, 101, 120] false y3 ([[97, 117, 116, 111]] : List Str) ([6] : List Int) false), (TProp.mk [111, 114, 100, 101, 114] false (TVal.mk 6 [] 0 (TColor.mk 0 0 0 0)) [] ([6] : List Int) false)] : List TProp)) fun q155 =>
 some q155
def props_Find_1 (p : TProp) (u0 : Str) : Bool :=
 p.Name == u0
def slices_IndexFunc_api_Prop_api_Prop_L1 (m : Nat) (s : List TProp) (f_c0 : Str) : Nat → Int → Option (Sum (Int) (Unit))
 | 0, _ => none
 | kk + 1, v6 =>
  cond (decide (v6 < (ln s))) (
  chk (0 ≤ v6 ∧ v6 < ln s) <|
  cond (props_Find_1 (gi s v6) f_c0) (
  some (.inl v6)) (
  slices_IndexFunc_api_Prop_api_Prop_L1 m s f_c0 kk (w64 (v6 + 1)))) (
  some (.inr ()))
def slices_IndexFunc_api_Prop_api_Prop (m : Nat) (s : List TProp) (f_c0 : Str) : Option (Int) :=
 Option.bind (
 slices_IndexFunc_api_Prop_api_Prop_L1 m s f_c0 m 0) fun (z3 : Sum (Int) (Unit)) => sumK z3 fun s_z3 =>
 some (-1)
def props_Find (m : Nat) (name_ : Str) : Option (Int × Int) :=
 Option.bind (props_Table m) fun y6 =>
 Option.bind (slices_IndexFunc_api_Prop_api_Prop m y6 name_) fun y11 =>
 cond (decide (y11 < 0)) (
 some (0, 6)) (
 some (y11, 0))
def props_Inherited (m : Nat) (name_ : Str) : Option (Bool × Int) :=
 Option.bind (props_Custom name_) fun y3 =>
 cond y3 (
 some (true, 0)) (
 Option.bind (props_Find 64 name_) fun y8 =>
 cond (y8.2 != 0) (
 some (false, y8.2)) (
 Option.bind (props_Table m) fun y15 =>
 chk (0 ≤ y8.1 ∧ y8.1 < ln y15) <|
 some ((gi y15 y8.1).Inherited, 0)))
def short_Longs (m : Nat) (name_ : Str) : Option ((List Str) × Int) :=
 Option.bind (short_of 64 name_) fun y5 =>
 cond (decide (0 < (ln y5))) (
 some (y5, 0)) (
 Option.bind (props_Inherited 64 name_) fun y16 =>
 cond (y16.2 != 0) (
 some (([] : List Str), y16.2)) (
 some (([name_] : List Str), 0)))
def r27_longs (name_ : Str) : Option (List Str) :=
 cond (name_ == [109, 97, 114, 103, 105, 110]) (
 some ([[109, 97, 114, 103, 105, 110, 45, 116, 111, 112], [109, 97, 114, 103, 105, 110, 45, 114, 105, 103, 104, 116], [109, 97, 114, 103, 105, 110, 45, 98, 111, 116, 116, 111, 109], [109, 97, 114, 103, 105, 110, 45, 108, 101, 102, 116]] : List Str)) (
 Option.bind (
 cond (name_ == [98, 111, 114, 100, 101, 114]) (
 some (name_ == [98, 111, 114, 100, 101, 114])) (
 lt (name_ == [111, 117, 116, 108, 105, 110, 101]) fun x16 =>
 cond x16 (
 some x16) (
 lt (name_ == [98, 97, 99, 107, 103, 114, 111, 117, 110, 100]) fun x19 =>
 some x19))) fun (z13 : Bool) =>
 cond z13 (
 chk (ln name_ + ln [45, 99, 111, 108, 111, 114] ≤ 9223372036854775807) <|
 some ([name_ ++ [45, 99, 111, 108, 111, 114]] : List Str)) (
 some ([] : List Str)))
def r25_Custom (s : Str) : Option (Bool) :=
 lt (cond (decide (2 < (ln s))) (decide ((ln s) ≤ 64)) false) fun x3 =>
 chk (x3 = true → 0 ≤ (2 : Int) ∧ (2 : Int) ≤ ln s) <|
 some (cond x3 ((sub s 0 2) == [45, 45]) false)
def r25_word (s : Str) : TVal :=
 (TVal.mk 1 s 0 (TColor.mk 0 0 0 0))
def r25_px (n_ : Int) : TVal :=
 (TVal.mk 2 [] n_ (TColor.mk 0 0 0 0))
def r25_Table  : Option (List TProp) :=
 lt (r25_word [105, 110, 108, 105, 110, 101]) fun y30 =>
 lt (r25_word [118, 105, 115, 105, 98, 108, 101]) fun y33 =>
 lt (r25_px 0) fun y40 =>
 lt (r25_px 0) fun y43 =>
 lt (r25_px 0) fun y46 =>
 lt (r25_px 0) fun y49 =>
 lt (r25_px 16000) fun y52 =>
 lt (r25_word [110, 111, 114, 109, 97, 108]) fun y53 =>
 chk (ln ([] : List Int) + ln ([2, 3, 4] : List Int) ≤ 1099511627776) <|
 lt (([] : List Int) ++ ([2, 3, 4] : List Int)) fun q59 =>
 chk (ln q59 + ln ([5] : List Int) ≤ 1099511627776) <|
 lt (q59 ++ ([5] : List Int)) fun q64 =>
 lt (r25_word [108, 101, 102, 116]) fun y66 =>
 some ([(TProp.mk [99, 111, 108, 111, 114] true (TVal.mk 7 [] 0 (TColor.mk 0 0 0 255)) [] ([7, 8] : List Int) false), (TProp.mk [98, 97, 99, 107, 103, 114, 111, 117, 110, 100, 45, 99, 111, 108, 111, 114] false (TVal.mk 7 [] 0 (TColor.mk 0 0 0 0)) [] ([7, 8] : List Int) false), (TProp.mk [98, 111, 114, 100, 101, 114, 45, 99, 111, 108, 111, 114] false (TVal.mk 8 [] 0 (TColor.mk 0 0 0 0)) [] ([7, 8] : List Int) false), (TProp.mk [111, 117, 116, 108, 105, 110, 101, 45, 99, 111, 108, 111, 114] false (TVal.mk 8 [] 0 (TColor.mk 0 0 0 0)) [] ([7, 8] : List Int) false), (TProp.mk [100, 105, 115, 112, 108, 97, 121] false y30 ([[98, 108, 111, 99, 107], [102, 108, 101, 120], [105, 110, 108, 105, 110, 101], [105, 110, 108, 105, 110, 101, 45, 98, 108, 111, 99, 107], [110, 111, 110, 101]] : List Str) [] false), (TProp.mk [118, 105, 115, 105, 98, 105, 108, 105, 116, 121] true y33 ([[99, 111, 108, 108, 97, 112, 115, 101], [104, 105, 100, 100, 101, 110], [118, 105, 115, 105, 98, 108, 101]] : List Str) [] false), (TProp.mk [119, 105, 100, 116, 104] false (TVal.mk 1 [97, 117, 116, 111] 0 (TColor.mk 0 0 0 0)) ([[97, 117, 116, 111]] : List Str) ([2, 3, 4] : List Int) true), (TProp.mk [104, 101, 105, 103, 104, 116] false (TVal.mk 1 [97, 117, 116, 111] 0 (TColor.mk 0 0 0 0)) ([[97, 117, 116, 111]] : List Str) ([2, 3, 4] : List Int) true), (TProp.mk [109, 97, 114, 103, 105, 110, 45, 116, 111, 112] false y40 ([[97, 117, 116, 111]] : List Str) ([2, 3, 4] : List Int) false), (TProp.mk [109, 97, 114, 103, 105, 110, 45, 114, 105, 103, 104, 116] false y43 ([[97, 117, 116, 111]] : List Str) ([2, 3, 4] : List Int) false), (TProp.mk [109, 97, 114, 103, 105, 110, 45, 98, 111, 116, 116, 111, 109] false y46 ([[97, 117, 116, 111]] : List Str) ([2, 3, 4] : List Int) false), (TProp.mk [109, 97, 114, 103, 105, 110, 45, 108, 101, 102, 116] false y49 ([[97, 117, 116, 111]] : List Str) ([2, 3, 4] : List Int) false), (TProp.mk [102, 111, 110, 116, 45, 115, 105, 122, 101] true y52 [] ([2, 3, 4] : List Int) true), (TProp.mk [108, 105, 110, 101, 45, 104, 101, 105, 103, 104, 116] true y53 ([[110, 111, 114, 109, 97, 108]] : List Str) q64 true), (TProp.mk [116, 101, 120, 116, 45, 97, 108, 105, 103, 110] true y66 ([[99, 101, 110, 116, 101, 114], [106, 117, 115, 116, 105, 102, 121], [108, 101, 102, 116], [114, 105, 103, 104, 116]] : List Str) [] false), (TProp.mk [111, 112, 97, 99, 105, 116, 121] false (TVal.mk 5 [] 1000 (TColor.mk 0 0 0 0)) [] ([5] : List Int) false), (TProp.mk [122, 45, 105, 110, 100, 101, 120] false (TVal.mk 1 [97, 117, 116, 111] 0 (TColor.mk 0 0 0 0)) ([[97, 117, 116, 111]] : List Str) ([6] : List Int) false), (TProp.mk [111, 114, 100, 101, 114] false (TVal.mk 6 [] 0 (TColor.mk 0 0 0 0)) [] ([6] : List Int) false)] : List TProp)
def r25_Find_L1 (m : Nat) (s : Str) (y3 : List TProp) : Nat → Int → Option (Sum (Int × Int) (Unit))
 | 0, _ => none
 | kk + 1, v13 =>
  cond (decide (v13 < (ln y3))) (
  chk (0 ≤ v13 ∧ v13 < ln y3) <|
  cond (((gi y3 v13).Name) == s) (
  some (.inl (v13, 0))) (
  r25_Find_L1 m s y3 kk (w64 (v13 + 1)))) (
  some (.inr ()))
def r25_Find (m : Nat) (s : Str) : Option (Int × Int) :=
 Option.bind (r25_Table) fun y3 =>
 Option.bind (
 r25_Find_L1 m s y3 m 0) fun (z10 : Sum (Int × Int) (Unit)) => sumK z10 fun s_z10 =>
 some (0, 6)
def r25_Inherited (m : Nat) (s : Str) : Option (Bool × Int) :=
 Option.bind (r25_Custom s) fun y3 =>
 cond y3 (
 some (true, 0)) (
 Option.bind (r25_Find 64 s) fun y8 =>
 cond (y8.2 != 0) (
 some (false, y8.2)) (
 Option.bind (r25_Table) fun y15 =>
 chk (0 ≤ y8.1 ∧ y8.1 < ln y15) <|
 some ((gi y15 y8.1).Inherited, 0)))
def r27_Longs (m : Nat) (name_ : Str) : Option ((List Str) × Int) :=
 Option.bind (r27_longs name_) fun y5 =>
 cond (decide (0 < (ln y5))) (
 some (y5, 0)) (
 Option.bind (r25_Inherited 64 name_) fun y16 =>
 cond (y16.2 != 0) (
 some (([] : List Str), 6)) (
 some (([name_] : List Str), 0)))
def nest_closer (kind : Int) : Int :=
 cond (kind == 2) (
 22) (
 lt (
 cond (kind == 19) (
 kind == 19) (
 cond (kind == 21) (
 kind == 21) (
 kind == 23))) fun (z9 : Bool) =>
 cond z9 (
 wu8 (kind + 1)) (
 0))
structure Tnest_found where
 depth : Int
 tokens : Int
 bad : Bool
instance : Inhabited Tnest_found := ⟨⟨default, default, default⟩⟩
def nest_look_L1 (m : Nat) (v_ : List TValue) (closes : Int) (rec_nest_look : (List TValue) → Int → Option (Tnest_found)) : Nat → Int → Int → Int → Bool → Option (Int × Int × Bool)
 | 0, _, _, _, _ => none
 | kk + 1, v10, v11, v12, v13 =>
  cond (decide (v10 < (ln v_))) (
  Option.bind (
  chk (0 ≤ v10 ∧ v10 < ln v_) <|
  Option.bind (
  lt (cond (closes != 0) (((gi v_ v10).Token.Kind) == closes) false) fun x32 =>
  lt (cond x32 true (cond ((nest_closer ((gi v_ v10).Token.Kind)) == 0) (decide (0 < (ln ((gi v_ v10).List_)))) false)) fun x33 =>
  cond x33 (
  some true) (
  some v13)) fun (z31 : Bool) =>
  lt ((nest_closer ((gi v_ v10).Token.Kind)) == 0) fun x41 =>
  cond x41 (
  some (w64 (v12 + 1), z31, v11)) (
  Option.bind (rec_nest_look ((gi v_ v10).List_) (nest_closer ((gi v_ v10).Token.Kind))) fun y44 =>
  lt (if v11 < w64 (y44.depth + 1) then w64 (y44.depth + 1) else v11) fun x52 =>
  lt (w64 ((w64 ((w64 (v12 + 1)) + y44.tokens)) + 1)) fun x53 =>
  some (x53, cond z31 true y44.bad, x52))) fun (z16 : Int × Bool × Int) =>
  nest_look_L1 m v_ closes rec_nest_look kk (w64 (v10 + 1)) z16.2.2 z16.1 z16.2.1) (
  some (v11, v12, v13))
def nest_look_r (m : Nat) : Nat → (List TValue) → Int → Option (Tnest_found)
 | 0, _, _ => none
 | k + 1, v_, closes =>
  Option.bind (
  nest_look_L1 m v_ closes (nest_look_r m k) m 0 0 0 false) fun (z7 : Int × Int × Bool) =>
  some (Tnest_found.mk z7.1 z7.2.1 z7.2.2)
def nest_look (m : Nat) (v_ : List TValue) (closes : Int) : Option (Tnest_found) := nest_look_r m  m v_ closes
def nest_Check (m : Nat) (v_ : List TValue) : Option (Int) :=
 Option.bind (nest_look m v_ 0) fun y3 =>
 cond (decide (16 < y3.depth)) (
 some 20) (
 cond (decide (1500 < y3.tokens)) (
 some 4) (
 cond y3.bad (
 some 8) (
 some 0)))
def short_sides_L1 (m : Nat) (l_ : List TValue) : Nat → (List (List TValue)) → Int → Option (Sum (List (List TValue)) (List (List TValue)))
 | 0, _, _ => none
 | kk + 1, v18, v20 =>
  cond (decide (v20 < (ln l_))) (
  Option.bind (
  chk (0 ≤ v20 ∧ v20 < ln l_) <|
  cond (((gi l_ v20).Token.Kind) == 13) (
  some (.inr v18)) (
  chk ((decide (0 < v20)) = true → 0 ≤ (w64 (v20 - 1)) ∧ (w64 (v20 - 1)) < ln l_) <|
  lt (cond (decide (0 < v20)) (((gi l_ (w64 (v20 - 1))).Token.Kind) != 13) false) fun x37 =>
  cond x37 (
  some (.inl (.inl ([] : List (List TValue))))) (
  chk (0 ≤ v20 ∧ v20 ≤ (w64 (v20 + 1)) ∧ (w64 (v20 + 1)) ≤ ln l_) <|
  lt (subl l_ v20 (w64 (v20 + 1))) fun q46 =>
  chk (ln v18 + ln ([q46] : List (List TValue)) ≤ 1099511627776) <|
  lt (v18 ++ ([q46] : List (List TValue))) fun q56 =>
  some (.inr q56)))) fun (z23 : Sum (Sum (List (List TValue)) (List (List TValue))) (List (List TValue))) => sumK z23 fun s_z23 =>
  short_sides_L1 m l_ kk s_z23 (w64 (v20 + 1))) (
  some (.inr v18))
def short_sides_L2 (m : Nat) (q85 : List Int) : Nat → (List (List TValue)) → Int → Option (List (List TValue))
 | 0, _, _ => none
 | kk + 1, v92, v94 =>
  cond (decide (v94 < (ln q85))) (
  chk (0 ≤ v94 ∧ v94 < ln q85) <|
  chk (0 ≤ (gi q85 v94) ∧ (gi q85 v94) < ln v92) <|
  chk (ln v92 + ln ([(gi v92 (gi q85 v94))] : List (List TValue)) ≤ 1099511627776) <|
  lt (v92 ++ ([(gi v92 (gi q85 v94))] : List (List TValue))) fun q109 =>
  short_sides_L2 m q85 kk q109 (w64 (v94 + 1))) (
  some v92)
def short_sides (m : Nat) (l_ : List TValue) : Option (List (List TValue)) :=
 chk (((ln l_) == 0) = false → 0 ≤ (0 : Int) ∧ (0 : Int) < ln l_) <|
 lt (cond ((ln l_) == 0) true (((gi l_ (0 : Int)).Token.Kind) == 13)) fun x4 =>
 chk (x4 = false → 0 ≤ (w64 ((ln l_) - 1)) ∧ (w64 ((ln l_) - 1)) < ln l_) <|
 lt (cond x4 true (((gi l_ (w64 ((ln l_) - 1))).Token.Kind) == 13)) fun x6 =>
 cond x6 (
 some ([] : List (List TValue))) (
 Option.bind (
 short_sides_L1 m l_ m ([] : List (List TValue)) 0) fun (z14 : Sum (List (List TValue)) (List (List TValue))) => sumK z14 fun s_z14 =>
 cond (decide (4 < (ln s_z14))) (
 some ([] : List (List TValue))) (
 Option.bind (
 chk (0 ≤ (w64 ((ln s_z14) - 1)) ∧ (w64 ((ln s_z14) - 1)) ≤ (ln ([0, 0, 1] : List Int)) ∧ (ln ([0, 0, 1] : List Int)) ≤ ln ([0, 0, 1] : List Int)) <|
 lt (subl ([0, 0, 1] : List Int) (w64 ((ln s_z14) - 1)) (ln ([0, 0, 1] : List Int))) fun q85 =>
 short_sides_L2 m q85 m s_z14 0) fun (z77 : List (List TValue)) =>
 some z77))
def parseval_opaque (r_ : Int) (g_ : Int) (b_ : Int) : TColor :=
 (TColor.mk r_ g_ b_ 255)
def parseval_small_L1 (m : Nat) (s : Str) : Nat → Int → (List Int) → Option (List Int)
 | 0, _, _ => none
 | kk + 1, v14, v15 =>
  cond (decide (v14 < (ln (ofB s)))) (
  Option.bind (
  chk (0 ≤ v14 ∧ v14 < ln (ofB s)) <|
  lt (cond (decide (65 ≤ (gi v15 v14))) (decide ((gi v15 v14) ≤ 90)) false) fun x22 =>
  cond x22 (
  lt (seti v15 v14 (wu8 ((wu8 ((gi v15 v14) + 97)) - 65))) fun q29 =>
  some q29) (
  some v15)) fun (z18 : List Int) =>
  parseval_small_L1 m s kk (w64 (v14 + 1)) z18) (
  some v15)
def parseval_small (m : Nat) (s : Str) : Option (Str) :=
 Option.bind (
 parseval_small_L1 m s m 0 (ofB s)) fun (z11 : List Int) =>
 some (toB z11)
def parseval_Named (m : Nat) (name_ : Str) : Option (TColor × Int) :=
 lt (parseval_opaque 0 0 0) fun y9 =>
 lt (parseval_opaque 255 255 255) fun y14 =>
 lt (parseval_opaque 255 0 0) fun y19 =>
 lt (parseval_opaque 0 255 0) fun y24 =>
 lt (parseval_opaque 0 0 255) fun y29 =>
 lt (parseval_opaque 255 255 0) fun y34 =>
 lt (parseval_opaque 128 128 128) fun y39 =>
 Option.bind (parseval_small m name_) fun y48 =>
 lt (x_key ([[98, 108, 97, 99, 107], [119, 104, 105, 116, 101], [114, 101, 100], [108, 105, 109, 101], [98, 108, 117, 101], [121, 101, 108, 108, 111, 119], [103, 114, 97, 121], [116, 114, 97, 110, 115, 112, 97, 114, 101, 110, 116]] : List Str) y48) fun x51 =>
 lt (gi ([y9.Red, y14.Red, y19.Red, y24.Red, y29.Red, y34.Red, y39.Red, 0, 0] : List Int) x51) fun x54 =>
 lt (gi ([y9.Green, y14.Green, y19.Green, y24.Green, y29.Green, y34.Green, y39.Green, 0, 0] : List Int) x51) fun x55 =>
 lt (gi ([y9.Blue, y14.Blue, y19.Blue, y24.Blue, y29.Blue, y34.Blue, y39.Blue, 0, 0] : List Int) x51) fun x56 =>
 lt (gi ([y9.Alpha, y14.Alpha, y19.Alpha, y24.Alpha, y29.Alpha, y34.Alpha, y39.Alpha, 0, 0] : List Int) x51) fun x57 =>
 cond (!(decide (x51 < 8))) (
 some ((TColor.mk 0 0 0 0), 6)) (
 some ((TColor.mk x54 x55 x56 x57), 0))
def strconv_lower (c_ : Int) : Int :=
 ibit .or .u8 c_ 32
def strconv_underscoreOK_L1 (m : Nat) (z7 : Str) (z19 : Int × Int × Bool) : Nat → Int → Int → Option (Sum (Bool) (Int))
 | 0, _, _ => none
 | kk + 1, v37, v38 =>
  cond (decide (v38 < (ln z7))) (
  Option.bind (
  chk (0 ≤ v38 ∧ v38 < ln z7) <|
  lt (cond (decide (48 ≤ (bat z7 v38))) (decide ((bat z7 v38) ≤ 57)) false) fun x43 =>
  lt (cond x43 true (cond (cond z19.2.2 (decide (97 ≤ (strconv_lower (bat z7 v38)))) false) (decide ((strconv_lower (bat z7 v38)) ≤ 102)) false)) fun x44 =>
  cond x44 (
  some (.inr 48)) (
  cond ((bat z7 v38) == 95) (
  cond (v37 != 48) (
  some (.inl (.inl false))) (
  some (.inr 95))) (
  cond (v37 == 95) (
  some (.inl (.inl false))) (
  some (.inr 33))))) fun (z41 : Sum (Sum (Bool) (Int)) (Int)) => sumK z41 fun s_z41 =>
  strconv_underscoreOK_L1 m z7 z19 kk s_z41 (w64 (v38 + 1))) (
  some (.inr v37))
def strconv_underscoreOK (m : Nat) (s : Str) : Option (Bool) :=
 Option.bind (
 chk ((decide (1 ≤ (ln s))) = true → 0 ≤ (0 : Int) ∧ (0 : Int) < ln s) <|
 chk (((bat s 0) == 45) = false → (decide (1 ≤ (ln s))) = true → 0 ≤ (0 : Int) ∧ (0 : Int) < ln s) <|
 lt (cond (decide (1 ≤ (ln s))) (cond ((bat s 0) == 45) true ((bat s 0) == 43)) false) fun x10 =>
 cond x10 (
 chk (0 ≤ (1 : Int) ∧ (1 : Int) ≤ ln s) <|
 some (sub s 1 (ln s))) (
 some s)) fun (z7 : Str) =>
 Option.bind (
 chk ((decide (2 ≤ (ln z7))) = true → 0 ≤ (0 : Int) ∧ (0 : Int) < ln z7) <|
 lt (cond (decide (2 ≤ (ln z7))) ((bat z7 0) == 48) false) fun x21 =>
 chk (x21 = true → 0 ≤ (1 : Int) ∧ (1 : Int) < ln z7) <|
 chk (((strconv_lower (bat z7 1)) == 98) = false → x21 = true → 0 ≤ (1 : Int) ∧ (1 : Int) < ln z7) <|
 chk ((cond ((strconv_lower (bat z7 1)) == 98) true ((strconv_lower (bat z7 1)) == 111)) = false → x21 = true → 0 ≤ (1 : Int) ∧ (1 : Int) < ln z7) <|
 lt (cond x21 (cond (cond ((strconv_lower (bat z7 1)) == 98) true ((strconv_lower (bat z7 1)) == 111)) true ((strconv_lower (bat z7 1)) == 120)) false) fun x25 =>
 cond x25 (
 chk (0 ≤ (1 : Int) ∧ (1 : Int) < ln z7) <|
 some (48, 2, (strconv_lower (bat z7 1)) == 120)) (
 some (94, 0, false))) fun (z19 : Int × Int × Bool) =>
 Option.bind (
 strconv_underscoreOK_L1 m z7 z19 m z19.1 z19.2.1) fun (z36 : Sum (Bool) (Int)) => sumK z36 fun s_z36 =>
 some (s_z36 != 95)
def strconv_ParseUint_2_L1 (m : Nat) (base : Int) (s_z11 : Str × Int) (z74 : Int) (x92 : Int) : Nat → Bool → Int → Int → Option (Sum (Int) (Bool × Int))
 | 0, _, _, _ => none
 | kk + 1, v108, v109, v110 =>
  cond (decide (v110 < (ln (ofB s_z11.1)))) (
  Option.bind (
  chk (0 ≤ v110 ∧ v110 < ln (ofB s_z11.1)) <|
  Option.bind (
  lt (cond ((gi (ofB s_z11.1) v110) == 95) (base == 0) false) fun x120 =>
  cond x120 (
  Option.bind (
  some (.inr (true, v109))) fun r125 => some (.inl r125)) (
  lt (cond (decide (48 ≤ (gi (ofB s_z11.1) v110))) (decide ((gi (ofB s_z11.1) v110) ≤ 57)) false) fun x126 =>
  cond x126 (
  some (.inr (v108, wu8 ((gi (ofB s_z11.1) v110) - 48)))) (
  lt (decide (97 ≤ (strconv_lower (gi (ofB s_z11.1) v110)))) fun x131 =>
  lt (cond x131 (decide ((strconv_lower (gi (ofB s_z11.1) v110)) ≤ 122)) false) fun x132 =>
  cond x132 (
  lt (wu8 ((strconv_lower (gi (ofB s_z11.1) v110)) - 97)) fun x135 =>
  some (.inr (v108, wu8 (x135 + 10)))) (
  none)))) fun (z119 : Sum (Sum (Sum (Int) (Bool × Int)) (Bool × Int)) (Bool × Int)) => sumK z119 fun s_z119 =>
  cond (decide ((wu8 s_z11.2) ≤ s_z119.2)) (
  none) (
  cond (decide (z74 ≤ v109)) (
  none) (
  lt (wu64 ((wu64 (v109 * (wu64 s_z11.2))) + (wu64 s_z119.2))) fun x153 =>
  lt (decide (x153 < (wu64 (v109 * (wu64 s_z11.2))))) fun x156 =>
  lt (cond x156 true (decide ((wu64 (x92 - 1)) < x153))) fun x157 =>
  cond x157 (
  none) (
  some (.inr (s_z119.1, x153)))))) fun (z113 : Sum (Sum (Int) (Bool × Int)) (Bool × Int)) => sumK z113 fun s_z113 =>
  strconv_ParseUint_2_L1 m base s_z11 z74 x92 kk s_z113.1 s_z113.2 (w64 (v110 + 1))) (
  some (.inr (v108, v109)))
def strconv_ParseUint_2 (m : Nat) (s : Str) (base : Int) (bitSize : Int) : Option (Int) :=
 cond (s == []) (
 none) (
 Option.bind (
 lt (cond (decide (2 ≤ base)) (decide (base ≤ 36)) false) fun x12 =>
 cond x12 (
 some (.inr (s, base))) (
 cond (base == 0) (
 chk (0 ≤ (0 : Int) ∧ (0 : Int) < ln s) <|
 cond ((bat s 0) == 48) (
 chk ((decide (3 ≤ (ln s))) = true → 0 ≤ (1 : Int) ∧ (1 : Int) < ln s) <|
 lt (cond (decide (3 ≤ (ln s))) ((strconv_lower (bat s 1)) == 98) false) fun x23 =>
 cond x23 (
 chk (0 ≤ (2 : Int) ∧ (2 : Int) ≤ ln s) <|
 some (.inr (sub s 2 (ln s), 2))) (
 lt (cond (decide (3 ≤ (ln s))) ((strconv_lower (bat s 1)) == 111) false) fun x31 =>
 cond x31 (
 chk (0 ≤ (2 : Int) ∧ (2 : Int) ≤ ln s) <|
 some (.inr (sub s 2 (ln s), 8))) (
 lt (cond (decide (3 ≤ (ln s))) ((strconv_lower (bat s 1)) == 120) false) fun x39 =>
 cond x39 (
 chk (0 ≤ (2 : Int) ∧ (2 : Int) ≤ ln s) <|
 some (.inr (sub s 2 (ln s), 16))) (
 chk (0 ≤ (1 : Int) ∧ (1 : Int) ≤ ln s) <|
 some (.inr (sub s 1 (ln s), 8)))))) (
 some (.inr (s, 10)))) (
 none))) fun (z11 : Sum (Int) (Str × Int)) => sumK z11 fun s_z11 =>
 Option.bind (
 cond (bitSize == 0) (
 some (.inr 64)) (
 lt (cond (decide (bitSize < 0)) true (decide (64 < bitSize))) fun x65 =>
 cond x65 (
 none) (
 some (.inr bitSize)))) fun (z60 : Sum (Int) (Int)) => sumK z60 fun s_z60 =>
 Option.bind (
 cond (s_z11.2 == 10) (
 some 1844674407370955162) (
 cond (s_z11.2 == 16) (
 some 1152921504606846976) (
 chk ((wu64 s_z11.2) ≠ 0) <|
 lt (wu64 (Int.tdiv 18446744073709551615 (wu64 s_z11.2))) fun x86 =>
 some (wu64 (x86 + 1))))) fun (z74 : Int) =>
 chk (0 ≤ (wu64 s_z60)) <|
 lt (wu64 (1 * 2 ^ (Nat.min (wu64 s_z60).toNat 64))) fun x92 =>
 Option.bind (
 strconv_ParseUint_2_L1 m base s_z11 z74 x92 m false 0 0) fun (z99 : Sum (Int) (Bool × Int)) => sumK z99 fun s_z99 =>
 Option.bind (cond s_z99.1 (strconv_underscoreOK m s) (some default)) fun y173 =>
 cond (cond s_z99.1 (!y173) false) (
 none) (
 some s_z99.2))
def strconv_ParseUint (m : Nat) (s : Str) (base : Int) (bitSize : Int) : Option (Int) :=
 Option.bind (strconv_ParseUint_2 m s base bitSize) fun y3 =>
 some y3
def parseval_hash_L1 (m : Nat) (s : Str) : Nat → Str → Int → Option (Str)
 | 0, _, _ => none
 | kk + 1, v16, v17 =>
  cond (decide (v17 < (ln s))) (
  chk (0 ≤ v17 ∧ v17 ≤ (w64 (v17 + 1)) ∧ (w64 (v17 + 1)) ≤ ln s) <|
  chk (ln (sub s v17 (w64 (v17 + 1))) + ln (sub s v17 (w64 (v17 + 1))) ≤ 9223372036854775807) <|
  lt ((sub s v17 (w64 (v17 + 1))) ++ (sub s v17 (w64 (v17 + 1)))) fun x24 =>
  chk (ln v16 + ln x24 ≤ 9223372036854775807) <|
  parseval_hash_L1 m s kk (v16 ++ x24) (w64 (v17 + 1))) (
  some v16)
def parseval_hash_L2 (m : Nat) (z36 : Str) : Nat → Int → Option (Sum (TColor × Bool) (Unit))
 | 0, _ => none
 | kk + 1, v54 =>
  cond (decide (v54 < (ln z36))) (
  chk (0 ≤ v54 ∧ v54 < ln z36) <|
  lt (cond (decide ((bat z36 v54) < 48)) true (decide (57 < (bat z36 v54)))) fun x62 =>
  lt (cond x62 (cond (decide ((bat z36 v54) < 97)) true (decide (102 < (bat z36 v54)))) false) fun x63 =>
  lt (cond x63 (cond (decide ((bat z36 v54) < 65)) true (decide (70 < (bat z36 v54)))) false) fun x64 =>
  cond x64 (
  some (.inl ((TColor.mk 0 0 0 0), false))) (
  parseval_hash_L2 m z36 kk (w64 (v54 + 1)))) (
  some (.inr ()))
def parseval_hash (m : Nat) (s : Str) : Option (TColor × Bool) :=
 Option.bind (
 cond (cond ((ln s) == 3) true ((ln s) == 4)) (
 Option.bind (
 parseval_hash_L1 m s m [] 0) fun (z13 : Str) =>
 some z13) (
 some s)) fun (z6 : Str) =>
 Option.bind (
 cond ((ln z6) == 6) (
 chk (ln z6 + ln [102, 102] ≤ 9223372036854775807) <|
 some (z6 ++ [102, 102])) (
 some z6)) fun (z36 : Str) =>
 cond ((ln z36) != 8) (
 some ((TColor.mk 0 0 0 0), false)) (
 Option.bind (
 parseval_hash_L2 m z36 m 0) fun (z51 : Sum (TColor × Bool) (Unit)) => sumK z51 fun s_z51 =>
 Option.bind (strconv_ParseUint m z36 16 32) fun y78 =>
 some ((TColor.mk (wu8 (Int.fdiv y78 (2 ^ 24))) (wu8 (Int.fdiv y78 (2 ^ 16))) (wu8 (Int.fdiv y78 (2 ^ 8))) (wu8 y78)), true))
def parseval_rgb_1 (t_ : TToken) (u0 : Str) (u1 : List Int) : Option (Str × (List Int)) :=
 cond (t_.Kind == 13) (
 some (u0, u1)) (
 cond (t_.Kind == 10) (
 chk (ln u0 + ln [110] ≤ 9223372036854775807) <|
 chk (ln u1 + ln ([t_.Num] : List Int) ≤ 1099511627776) <|
 lt (u1 ++ ([t_.Num] : List Int)) fun q20 =>
 some (u0 ++ [110], q20)) (
 cond (t_.Kind == 18) (
 chk (ln u0 + ln [44] ≤ 9223372036854775807) <|
 some (u0 ++ [44], u1)) (
 lt (cond (t_.Kind == 9) (t_.Text == [47]) false) fun x33 =>
 cond x33 (
 chk (ln u0 + ln [47] ≤ 9223372036854775807) <|
 some (u0 ++ [47], u1)) (
 chk (ln u0 + ln [120] ≤ 9223372036854775807) <|
 some (u0 ++ [120], u1)))))
def parseval_rgb_2 (i : Int) (u0 : List Int) : Option (Int) :=
 chk (0 ≤ i ∧ i < ln u0) <|
 lt (if w64 (Int.tdiv (gi u0 i) 1000) < 255 then w64 (Int.tdiv (gi u0 i) 1000) else 255) fun x4 =>
 some (wu8 (if 0 < x4 then x4 else 0))
def parseval_rgb_L1 (m : Nat) (l_ : List TValue) : Nat → Int → (List Int) → Str → Option (Str × (List Int))
 | 0, _, _, _ => none
 | kk + 1, v20, v21, v23 =>
  cond (decide (v20 < (ln l_))) (
  chk (0 ≤ v20 ∧ v20 < ln l_) <|
  Option.bind (parseval_rgb_1 ((gi l_ v20).Token) v23 v21) fun y36 =>
  parseval_rgb_L1 m l_ kk (w64 (v20 + 1)) y36.2 y36.1) (
  some (v23, v21))
def parseval_rgb (m : Nat) (l_ : List TValue) : Option (TColor × Bool) :=
 Option.bind (
 parseval_rgb_L1 m l_ m 0 ([] : List Int) []) fun (z16 : Str × (List Int)) =>
 Option.bind (
 Option.bind (
 cond (z16.1 == [110, 110, 110]) (
 some (z16.1 == [110, 110, 110])) (
 some (z16.1 == [110, 44, 110, 44, 110]))) fun (z50 : Bool) =>
 cond z50 (
 chk (ln z16.2 + ln ([1000] : List Int) ≤ 1099511627776) <|
 lt (z16.2 ++ ([1000] : List Int)) fun q63 =>
 some (.inr q63)) (
 Option.bind (
 cond (z16.1 == [110, 110, 110, 47, 110]) (
 some (z16.1 == [110, 110, 110, 47, 110])) (
 lt (z16.1 == [110, 44, 110, 44, 110, 44, 110]) fun x72 =>
 some x72)) fun (z69 : Bool) =>
 cond z69 (
 some (.inr z16.2)) (
 some (.inl ((TColor.mk 0 0 0 0), false))))) fun (z47 : Sum (TColor × Bool) (List Int)) => sumK z47 fun s_z47 =>
 Option.bind (parseval_rgb_2 0 s_z47) fun y90 =>
 Option.bind (parseval_rgb_2 1 s_z47) fun y91 =>
 Option.bind (parseval_rgb_2 2 s_z47) fun y92 =>
 chk (0 ≤ (3 : Int) ∧ (3 : Int) < ln s_z47) <|
 lt (if (gi s_z47 (3 : Int)) < 1000 then (gi s_z47 (3 : Int)) else 1000) fun x94 =>
 lt (w64 (Int.tdiv (w64 ((if 0 < x94 then x94 else 0) * 255)) 1000)) fun x95 =>
 some ((TColor.mk y90 y91 y92 (wu8 x95)), true)
def parseval_color (m : Nat) (v_ : TValue) : Option (TColor × Bool) :=
 Option.bind (
 cond (v_.Token.Kind == 1) (
 Option.bind (parseval_Named m v_.Token.Text) fun y14 =>
 some (.inl (y14.1, y14.2 == 0))) (
 cond (v_.Token.Kind == 4) (
 Option.bind (parseval_hash m v_.Token.Text) fun y32 =>
 some (.inl (y32.1, y32.2))) (
 cond (v_.Token.Kind == 2) (
 Option.bind (parseval_small m v_.Token.Text) fun y41 =>
 lt (cond (y41 == [114, 103, 98]) true (y41 == [114, 103, 98, 97])) fun x44 =>
 cond x44 (
 Option.bind (parseval_rgb m v_.List_) fun y47 =>
 some (.inl (y47.1, y47.2))) (
 some (.inr ()))) (
 some (.inr ()))))) fun (z9 : Sum (TColor × Bool) (Unit)) => sumK z9 fun s_z9 =>
 some ((TColor.mk 0 0 0 0), false)
def parseval_maybe (m : Nat) (v_ : TValue) : Option (List TVal) :=
 Option.bind (
 Option.bind (parseval_color m v_) fun y16 =>
 cond y16.2 (
 chk (ln ([] : List TVal) + ln ([(TVal.mk 7 [] 0 y16.1)] : List TVal) ≤ 1099511627776) <|
 lt (([] : List TVal) ++ ([(TVal.mk 7 [] 0 y16.1)] : List TVal)) fun q36 =>
 some q36) (
 some ([] : List TVal))) fun (z15 : List TVal) =>
 Option.bind (
 cond (v_.Token.Kind == 1) (
 Option.bind (parseval_small m v_.Token.Text) fun y51 =>
 chk (ln z15 + ln ([(TVal.mk 1 y51 0 (TColor.mk 0 0 0 0))] : List TVal) ≤ 1099511627776) <|
 lt (z15 ++ ([(TVal.mk 1 y51 0 (TColor.mk 0 0 0 0))] : List TVal)) fun q61 =>
 lt (y51 == [99, 117, 114, 114, 101, 110, 116, 99, 111, 108, 111, 114]) fun x67 =>
 cond x67 (
 chk (ln q61 + ln ([(TVal.mk 8 [] 0 (TColor.mk 0 0 0 0))] : List TVal) ≤ 1099511627776) <|
 lt (q61 ++ ([(TVal.mk 8 [] 0 (TColor.mk 0 0 0 0))] : List TVal)) fun q77 =>
 some q77) (
 some q61)) (
 cond (v_.Token.Kind == 12) (
 Option.bind (parseval_small m v_.Token.Unit) fun y95 =>
 lt (x_key ([[112, 120], [101, 109], [114, 101, 109]] : List Str) y95) fun x98 =>
 lt (decide (0 < (gi ([2, 3, 4, 0] : List Int) x98))) fun x103 =>
 cond x103 (
 chk (ln z15 + ln ([(TVal.mk (gi ([2, 3, 4, 0] : List Int) x98) [] v_.Token.Num (TColor.mk 0 0 0 0))] : List TVal) ≤ 1099511627776) <|
 lt (z15 ++ ([(TVal.mk (gi ([2, 3, 4, 0] : List Int) x98) [] v_.Token.Num (TColor.mk 0 0 0 0))] : List TVal)) fun q113 =>
 some q113) (
 some z15)) (
 cond (v_.Token.Kind == 10) (
 Option.bind (
 cond v_.Token.Flag (
 chk (ln z15 + ln ([(TVal.mk 6 [] (w64 (Int.tdiv v_.Token.Num 1000)) (TColor.mk 0 0 0 0))] : List TVal) ≤ 1099511627776) <|
 lt (z15 ++ ([(TVal.mk 6 [] (w64 (Int.tdiv v_.Token.Num 1000)) (TColor.mk 0 0 0 0))] : List TVal)) fun q132 =>
 some q132) (
 some z15)) fun (z122 : List TVal) =>
 chk (ln z122 + ln ([(TVal.mk 5 [] v_.Token.Num (TColor.mk 0 0 0 0))] : List TVal) ≤ 1099511627776) <|
 lt (z122 ++ ([(TVal.mk 5 [] v_.Token.Num (TColor.mk 0 0 0 0))] : List TVal)) fun q147 =>
 cond (v_.Token.Num == 0) (
 chk (ln q147 + ln ([(TVal.mk 2 [] 0 (TColor.mk 0 0 0 0))] : List TVal) ≤ 1099511627776) <|
 lt (q147 ++ ([(TVal.mk 2 [] 0 (TColor.mk 0 0 0 0))] : List TVal)) fun q162 =>
 some q162) (
 some q147)) (
 some z15)))) fun (z46 : List TVal) =>
 some z46
def props_Check (v_ : TVal) : Option (Int) :=
 Option.bind (
 Option.bind (
 cond (v_.Kind == 1) (
 Option.bind (
 some (.inr (v_.Word, 0, 0, 0, 0, 0))) fun r25 => some (.inl r25)) (
 cond (v_.Kind == 6) (
 some (.inr (w64 (Int.tdiv 1000000000000 1000)))) (
 Option.bind (
 cond (v_.Kind == 2) (
 some (v_.Kind == 2)) (
 cond (v_.Kind == 3) (
 some (v_.Kind == 3)) (
 cond (v_.Kind == 4) (
 some (v_.Kind == 4)) (
 some (v_.Kind == 5))))) fun (z30 : Bool) =>
 cond z30 (
 some (.inr 1000000000000)) (
 cond (v_.Kind == 7) (
 Option.bind (
 some (.inr ([], v_.Color.Red, v_.Color.Green, v_.Color.Blue, v_.Color.Alpha, 0))) fun r48 => some (.inl r48)) (
 cond (v_.Kind == 8) (
 Option.bind (
 some (.inr ([], 0, 0, 0, 0, 0))) fun r51 => some (.inl r51)) (
 Option.bind (
 some (.inl 8)) fun r54 => some (.inl r54))))))) fun (z18 : Sum (Sum (Int) (Str × Int × Int × Int × Int × Int)) (Int)) => sumK z18 fun s_z18 =>
 lt (if w64 (0 - s_z18) < if v_.Num < s_z18 then v_.Num else s_z18 then if v_.Num < s_z18 then v_.Num else s_z18 else w64 (0 - s_z18)) fun x61 =>
 some (.inr ([], 0, 0, 0, 0, x61))) fun (z15 : Sum (Int) (Str × Int × Int × Int × Int × Int)) => sumK z15 fun s_z15 =>
 lt (!((v_.Kind == v_.Kind) && ((v_.Word == s_z15.1) && ((v_.Num == s_z15.2.2.2.2.2) && (((v_.Color.Red == s_z15.2.1) && ((v_.Color.Green == s_z15.2.2.1) && ((v_.Color.Blue == s_z15.2.2.2.1) && ((v_.Color.Alpha == s_z15.2.2.2.2.1) && true)))) && true))))) fun x67 =>
 lt (cond x67 true (cond (v_.Kind == 1) (v_.Word == []) false)) fun x68 =>
 cond x68 (
 some 8) (
 some 0)
def slices_Index_uint8_uint8_L1 (m : Nat) (s : List Int) (v_ : Int) : Nat → Int → Option (Sum (Int) (Unit))
 | 0, _ => none
 | kk + 1, v6 =>
  cond (decide (v6 < (ln s))) (
  chk (0 ≤ v6 ∧ v6 < ln s) <|
  cond (v_ == (gi s v6)) (
  some (.inl v6)) (
  slices_Index_uint8_uint8_L1 m s v_ kk (w64 (v6 + 1)))) (
  some (.inr ()))
def slices_Index_uint8_uint8 (m : Nat) (s : List Int) (v_ : Int) : Option (Int) :=
 Option.bind (
 slices_Index_uint8_uint8_L1 m s v_ m 0) fun (z3 : Sum (Int) (Unit)) => sumK z3 fun s_z3 =>
 some (-1)
def slices_Contains_uint8_uint8 (m : Nat) (s : List Int) (v_ : Int) : Option (Bool) :=
 Option.bind (slices_Index_uint8_uint8 m s v_) fun y3 =>
 some (decide (0 ≤ y3))
def props_Has (m : Nat) (prop : Int) (v_ : TVal) : Option (Bool × Int) :=
 lt (cond (decide (prop < 0)) true (decide (18 ≤ prop))) fun x6 =>
 cond x6 (
 some (false, 2)) (
 Option.bind (props_Table m) fun y11 =>
 chk (0 ≤ prop ∧ prop < ln y11) <|
 Option.bind (props_Check v_) fun y24 =>
 cond (y24 != 0) (
 some (false, 0)) (
 cond (v_.Kind == 1) (
 Option.bind (slices_Contains_string_string 64 ((gi y11 prop).Words) v_.Word) fun y31 =>
 some (y31, 0)) (
 Option.bind (slices_Contains_uint8_uint8 m ((gi y11 prop).Kinds) v_.Kind) fun y34 =>
 lt (cond y34 (cond (!((gi y11 prop).Least)) true (decide (0 ≤ v_.Num))) false) fun x35 =>
 some (x35, 0))))
def parseval_Parse_L1 (m : Nat) (prop : Int) (y28 : List TVal) : Nat → Int → Option (Sum (TVal × Int) (Unit))
 | 0, _ => none
 | kk + 1, v35 =>
  cond (decide (v35 < (ln y28))) (
  chk (0 ≤ v35 ∧ v35 < ln y28) <|
  Option.bind (props_Has 64 prop (gi y28 v35)) fun y46 =>
  cond y46.1 (
  some (.inl ((gi y28 v35), 0))) (
  parseval_Parse_L1 m prop y28 kk (w64 (v35 + 1)))) (
  some (.inr ()))
def parseval_Parse (m : Nat) (prop : Int) (l_ : List TValue) : Option (TVal × Int) :=
 lt (cond (decide (prop < 0)) true (decide (18 ≤ prop))) fun x6 =>
 cond x6 (
 some ((TVal.mk 0 [] 0 (TColor.mk 0 0 0 0)), 2)) (
 cond ((ln l_) != 1) (
 some ((TVal.mk 0 [] 0 (TColor.mk 0 0 0 0)), 12)) (
 Option.bind (
 chk (0 ≤ (0 : Int) ∧ (0 : Int) < ln l_) <|
 Option.bind (parseval_maybe m (gi l_ (0 : Int))) fun y28 =>
 parseval_Parse_L1 m prop y28 m 0) fun (z23 : Sum (TVal × Int) (Unit)) => sumK z23 fun s_z23 =>
 some ((TVal.mk 0 [] 0 (TColor.mk 0 0 0 0)), 12)))
def short_right (m : Nat) (name_ : Str) (l_ : List TValue) : Option (Bool) :=
 Option.bind (props_Find 64 name_) fun y3 =>
 cond (y3.2 != 0) (
 some false) (
 Option.bind (parseval_Parse m y3.1 l_) fun y10 =>
 some (y10.2 == 0))
def short_parts_L1 (m : Nat) (z11 : List (List TValue)) (y28 : List Str) : Nat → Int → Option (Sum (List (List TValue)) (Unit))
 | 0, _ => none
 | kk + 1, v43 =>
  cond (decide (v43 < (ln y28))) (
  chk (0 ≤ v43 ∧ v43 < ln y28) <|
  chk (0 ≤ v43 ∧ v43 < ln z11) <|
  Option.bind (short_right m (gi y28 v43) (gi z11 v43)) fun y50 =>
  cond (!y50) (
  some (.inl ([] : List (List TValue)))) (
  short_parts_L1 m z11 y28 kk (w64 (v43 + 1)))) (
  some (.inr ()))
def short_parts (m : Nat) (whole : Str) (l_ : List TValue) : Option (List (List TValue)) :=
 Option.bind (
 cond (whole == [109, 97, 114, 103, 105, 110]) (
 Option.bind (short_sides m l_) fun y16 =>
 some y16) (
 some ([l_] : List (List TValue)))) fun (z11 : List (List TValue)) =>
 Option.bind (short_of 64 whole) fun y28 =>
 cond ((ln z11) != (ln y28)) (
 some ([] : List (List TValue))) (
 Option.bind (
 short_parts_L1 m z11 y28 m 0) fun (z40 : Sum (List (List TValue)) (Unit)) => sumK z40 fun s_z40 =>
 some z11)
def short_clone_L1 (m : Nat) (l_ : List TValue) (rec_short_clone : (List TValue) → Option (List TValue)) : Nat → (List TValue) → Int → Option (List TValue)
 | 0, _, _ => none
 | kk + 1, v9, v11 =>
  cond (decide (v11 < (ln l_))) (
  chk (0 ≤ v11 ∧ v11 < ln l_) <|
  Option.bind (rec_short_clone ((gi l_ v11).List_)) fun y24 =>
  chk (ln v9 + ln ([(TValue.mk ((gi l_ v11).Token) y24)] : List TValue) ≤ 1099511627776) <|
  lt (v9 ++ ([(TValue.mk ((gi l_ v11).Token) y24)] : List TValue)) fun q30 =>
  short_clone_L1 m l_ rec_short_clone kk q30 (w64 (v11 + 1))) (
  some v9)
def short_clone_r (m : Nat) : Nat → (List TValue) → Option (List TValue)
 | 0, _ => none
 | k + 1, l_ =>
  Option.bind (
  short_clone_L1 m l_ (short_clone_r m k) m ([] : List TValue) 0) fun (z5 : List TValue) =>
  some z5
def short_clone (m : Nat) (l_ : List TValue) : Option (List TValue) := short_clone_r m  m l_
def short_Part (m : Nat) (whole : Str) (long : Str) (l_ : List TValue) : Option ((List TValue) × Int) :=
 Option.bind (nest_Check m l_) fun y3 =>
 cond (y3 != 0) (
 some (([] : List TValue), y3)) (
 Option.bind (short_of 64 whole) fun y13 =>
 Option.bind (slices_Index_string_string m y13 long) fun y18 =>
 cond (decide (y18 < 0)) (
 some (([] : List TValue), 6)) (
 Option.bind (short_parts m whole l_) fun y28 =>
 cond ((ln y28) == 0) (
 some (([] : List TValue), 12)) (
 chk (0 ≤ y18 ∧ y18 < ln y28) <|
 Option.bind (short_clone m (gi y28 y18)) fun y44 =>
 some (y44, 0))))
def r04_Tokens_L1 (m : Nat) (v_ : List TValue) (rec_r04_Tokens : (List TValue) → Option (List TToken)) : Nat → (List TToken) → Int → Option (List TToken)
 | 0, _, _ => none
 | kk + 1, v9, v11 =>
  cond (decide (v11 < (ln v_))) (
  Option.bind (
  chk (0 ≤ v11 ∧ v11 < ln v_) <|
  chk (ln v9 + ln ([(gi v_ v11).Token] : List TToken) ≤ 1099511627776) <|
  lt (v9 ++ ([(gi v_ v11).Token] : List TToken)) fun q23 =>
  lt ((r04_Closer ((gi v_ v11).Token.Kind)) != 0) fun x31 =>
  cond x31 (
  Option.bind (rec_r04_Tokens ((gi v_ v11).List_)) fun y37 =>
  chk (ln q23 + ln y37 ≤ 1099511627776) <|
  lt (q23 ++ y37) fun q43 =>
  chk (ln q43 + ln ([(TToken.mk (r04_Closer ((gi v_ v11).Token.Kind)) [] 0 [] false)] : List TToken) ≤ 1099511627776) <|
  lt (q43 ++ ([(TToken.mk (r04_Closer ((gi v_ v11).Token.Kind)) [] 0 [] false)] : List TToken)) fun q56 =>
  some q56) (
  some q23)) fun (z14 : List TToken) =>
  r04_Tokens_L1 m v_ rec_r04_Tokens kk z14 (w64 (v11 + 1))) (
  some v9)
def r04_Tokens_r (m : Nat) : Nat → (List TValue) → Option (List TToken)
 | 0, _ => none
 | k + 1, v_ =>
  Option.bind (
  r04_Tokens_L1 m v_ (r04_Tokens_r m k) m ([] : List TToken) 0) fun (z5 : List TToken) =>
  some z5
def r04_Tokens (m : Nat) (v_ : List TValue) : Option (List TToken) := r04_Tokens_r m  m v_
def r04_shaped_L1 (m : Nat) (v_ : List TValue) (closer : Int) (rec_r04_shaped : (List TValue) → Int → Option (Bool)) : Nat → Int → Option (Sum (Bool) (Unit))
 | 0, _ => none
 | kk + 1, v6 =>
  cond (decide (v6 < (ln v_))) (
  chk (0 ≤ v6 ∧ v6 < ln v_) <|
  lt ((r04_Closer ((gi v_ v6).Token.Kind)) == 0) fun x12 =>
  lt (cond x12 (decide (0 < (ln ((gi v_ v6).List_)))) false) fun x13 =>
  lt (cond x13 true (cond (closer != 0) (((gi v_ v6).Token.Kind) == closer) false)) fun x14 =>
  Option.bind (cond x14 (some default) (cond ((r04_Closer ((gi v_ v6).Token.Kind)) != 0) (rec_r04_shaped ((gi v_ v6).List_) (r04_Closer ((gi v_ v6).Token.Kind))) (some default))) fun y15 =>
  lt (cond x14 true (cond ((r04_Closer ((gi v_ v6).Token.Kind)) != 0) (!y15) false)) fun x16 =>
  cond x16 (
  some (.inl false)) (
  r04_shaped_L1 m v_ closer rec_r04_shaped kk (w64 (v6 + 1)))) (
  some (.inr ()))
def r04_shaped_r (m : Nat) : Nat → (List TValue) → Int → Option (Bool)
 | 0, _, _ => none
 | k + 1, v_, closer =>
  Option.bind (
  r04_shaped_L1 m v_ closer (r04_shaped_r m k) m 0) fun (z3 : Sum (Bool) (Unit)) => sumK z3 fun s_z3 =>
  some true
def r04_shaped (m : Nat) (v_ : List TValue) (closer : Int) : Option (Bool) := r04_shaped_r m  m v_ closer
def r04_Check (m : Nat) (v_ : List TValue) : Option (Int) :=
 Option.bind (r04_Deep m v_) fun y3 =>
 cond (decide (16 < y3)) (
 some 20) (
 Option.bind (r04_Tokens m v_) fun y10 =>
 cond (decide (1500 < (ln y10))) (
 some 4) (
 Option.bind (r04_shaped m v_ 0) fun y19 =>
 cond (!y19) (
 some 8) (
 some 0)))
def r27_parts_L1 (m : Nat) (l_ : List TValue) : Nat → (List (List TValue)) → Bool → Int → Option (Sum (List (List TValue)) ((List (List TValue)) × Bool))
 | 0, _, _, _ => none
 | kk + 1, v11, v13, v14 =>
  cond (decide (v14 < (ln l_))) (
  chk (0 ≤ v14 ∧ v14 < ln l_) <|
  lt (cond (!(((gi l_ v14).Token.Kind) == 13)) (!v13) false) fun x20 =>
  lt (cond x20 true (cond (((gi l_ v14).Token.Kind) == 13) (v14 == 0) false)) fun x21 =>
  cond x21 (
  some (.inl ([] : List (List TValue)))) (
  Option.bind (
  cond (!(((gi l_ v14).Token.Kind) == 13)) (
  chk (0 ≤ v14 ∧ v14 ≤ (w64 (v14 + 1)) ∧ (w64 (v14 + 1)) ≤ ln l_) <|
  lt (subl l_ v14 (w64 (v14 + 1))) fun q33 =>
  chk (ln v11 + ln ([q33] : List (List TValue)) ≤ 1099511627776) <|
  lt (v11 ++ ([q33] : List (List TValue))) fun q43 =>
  some q43) (
  some v11)) fun (z27 : List (List TValue)) =>
  r27_parts_L1 m l_ kk z27 (((gi l_ v14).Token.Kind) == 13) (w64 (v14 + 1)))) (
  some (.inr (v11, v13)))
def r27_parts (m : Nat) (l_ : List TValue) : Option (List (List TValue)) :=
 Option.bind (
 r27_parts_L1 m l_ m ([] : List (List TValue)) true 0) fun (z7 : Sum (List (List TValue)) ((List (List TValue)) × Bool)) => sumK z7 fun s_z7 =>
 lt (cond s_z7.2 true (decide (4 < (ln s_z7.1)))) fun x61 =>
 cond x61 (
 some ([] : List (List TValue))) (
 Option.bind (
 cond (decide ((ln s_z7.1) < 2)) (
 chk (0 ≤ (0 : Int) ∧ (0 : Int) < ln s_z7.1) <|
 chk (ln s_z7.1 + ln ([(gi s_z7.1 (0 : Int))] : List (List TValue)) ≤ 1099511627776) <|
 lt (s_z7.1 ++ ([(gi s_z7.1 (0 : Int))] : List (List TValue))) fun q79 =>
 some q79) (
 some s_z7.1)) fun (z67 : List (List TValue)) =>
 Option.bind (
 cond (decide ((ln z67) < 3)) (
 chk (0 ≤ (0 : Int) ∧ (0 : Int) < ln z67) <|
 chk (ln z67 + ln ([(gi z67 (0 : Int))] : List (List TValue)) ≤ 1099511627776) <|
 lt (z67 ++ ([(gi z67 (0 : Int))] : List (List TValue))) fun q99 =>
 some q99) (
 some z67)) fun (z87 : List (List TValue)) =>
 Option.bind (
 cond (decide ((ln z87) < 4)) (
 chk (0 ≤ (1 : Int) ∧ (1 : Int) < ln z87) <|
 chk (ln z87 + ln ([(gi z87 (1 : Int))] : List (List TValue)) ≤ 1099511627776) <|
 lt (z87 ++ ([(gi z87 (1 : Int))] : List (List TValue))) fun q119 =>
 some q119) (
 some z87)) fun (z107 : List (List TValue)) =>
 some z107)
def r25_Check (v_ : TVal) : Option (Int) :=
 Option.bind (
 cond (v_.Kind == 1) (
 cond (v_.Word == []) (
 some (.inl 8)) (
 some (.inr (1000000000000, v_.Word, 0, 0, 0, 0, 0)))) (
 Option.bind (
 cond (v_.Kind == 2) (
 some (v_.Kind == 2)) (
 cond (v_.Kind == 3) (
 some (v_.Kind == 3)) (
 cond (v_.Kind == 4) (
 some (v_.Kind == 4)) (
 some (v_.Kind == 5))))) fun (z29 : Bool) =>
 cond z29 (
 some (.inr (1000000000000, [], v_.Num, 0, 0, 0, 0))) (
 cond (v_.Kind == 6) (
 some (.inr (1000000000, [], v_.Num, 0, 0, 0, 0))) (
 cond (v_.Kind == 7) (
 some (.inr (1000000000000, [], 0, v_.Color.Red, v_.Color.Green, v_.Color.Blue, v_.Color.Alpha))) (
 cond (v_.Kind == 8) (
 some (.inr (1000000000000, [], 0, 0, 0, 0, 0))) (
 some (.inl 8))))))) fun (z15 : Sum (Int) (Int × Str × Int × Int × Int × Int × Int)) => sumK z15 fun s_z15 =>
 lt (!((v_.Kind == v_.Kind) && ((v_.Word == s_z15.2.1) && ((v_.Num == s_z15.2.2.1) && (((v_.Color.Red == s_z15.2.2.2.1) && ((v_.Color.Green == s_z15.2.2.2.2.1) && ((v_.Color.Blue == s_z15.2.2.2.2.2.1) && ((v_.Color.Alpha == s_z15.2.2.2.2.2.2) && true)))) && true))))) fun x69 =>
 lt (cond x69 true (decide (s_z15.1 < v_.Num))) fun x70 =>
 lt (cond x70 true (decide (v_.Num < (w64 (0 - s_z15.1))))) fun x71 =>
 cond x71 (
 some 8) (
 some 0)
def r25_Has_L1 (m : Nat) (prop : Int) (v_ : TVal) (y6 : List TProp) : Nat → Int → Option (Sum (Sum (Bool × Int) (Unit)) (Unit))
 | 0, _ => none
 | kk + 1, v37 =>
  cond (decide (v37 < (ln ((gi y6 prop).Words)))) (
  chk (0 ≤ v37 ∧ v37 < ln ((gi y6 prop).Words)) <|
  cond ((gi ((gi y6 prop).Words) v37) == v_.Word) (
  some (.inl (.inl (true, 0)))) (
  r25_Has_L1 m prop v_ y6 kk (w64 (v37 + 1)))) (
  some (.inr ()))
def r25_Has_L2 (m : Nat) (prop : Int) (v_ : TVal) (y6 : List TProp) : Nat → Int → Option (Sum (Bool × Int) (Unit))
 | 0, _ => none
 | kk + 1, v57 =>
  cond (decide (v57 < (ln ((gi y6 prop).Kinds)))) (
  chk (0 ≤ v57 ∧ v57 < ln ((gi y6 prop).Kinds)) <|
  cond ((gi ((gi y6 prop).Kinds) v57) == v_.Kind) (
  lt (cond (!((gi y6 prop).Least)) true (decide (0 ≤ v_.Num))) fun x63 =>
  some (.inl (x63, 0))) (
  r25_Has_L2 m prop v_ y6 kk (w64 (v57 + 1)))) (
  some (.inr ()))
def r25_Has (m : Nat) (prop : Int) (v_ : TVal) : Option (Bool × Int) :=
 Option.bind (r25_Table) fun y6 =>
 lt (cond (decide (prop < 0)) true (decide ((ln y6) ≤ prop))) fun x13 =>
 cond x13 (
 some (false, 2)) (
 Option.bind (r25_Check v_) fun y18 =>
 cond (y18 != 0) (
 some (false, 0)) (
 chk (0 ≤ prop ∧ prop < ln y6) <|
 Option.bind (
 cond (v_.Kind == 1) (
 Option.bind (
 r25_Has_L1 m prop v_ y6 m 0) fun (z34 : Sum (Sum (Bool × Int) (Unit)) (Unit)) => sumK z34 fun s_z34 =>
 some (.inl (false, 0))) (
 some (.inr ()))) fun (z31 : Sum (Bool × Int) (Unit)) => sumK z31 fun s_z31 =>
 Option.bind (
 r25_Has_L2 m prop v_ y6 m 0) fun (z54 : Sum (Bool × Int) (Unit)) => sumK z54 fun s_z54 =>
 some (false, 0)))
def r26_names  : List Str :=
 ([[98, 108, 97, 99, 107], [119, 104, 105, 116, 101], [114, 101, 100], [108, 105, 109, 101], [98, 108, 117, 101], [121, 101, 108, 108, 111, 119], [103, 114, 97, 121], [116, 114, 97, 110, 115, 112, 97, 114, 101, 110, 116]] : List Str)
def r26_colors  : List TColor :=
 ([(TColor.mk 0 0 0 255), (TColor.mk 255 255 255 255), (TColor.mk 255 0 0 255), (TColor.mk 0 255 0 255), (TColor.mk 0 0 255 255), (TColor.mk 255 255 0 255), (TColor.mk 128 128 128 255), (TColor.mk 0 0 0 0)] : List TColor)
def r26_Small_L1 (m : Nat) (s : Str) : Nat → Int → (List Int) → Option (List Int)
 | 0, _, _ => none
 | kk + 1, v14, v15 =>
  cond (decide (v14 < (ln (ofB s)))) (
  Option.bind (
  chk (0 ≤ v14 ∧ v14 < ln (ofB s)) <|
  lt (cond (decide (65 ≤ (gi v15 v14))) (decide ((gi v15 v14) ≤ 90)) false) fun x20 =>
  cond x20 (
  lt (seti v15 v14 (wu8 ((gi v15 v14) + 32))) fun q27 =>
  some q27) (
  some v15)) fun (z18 : List Int) =>
  r26_Small_L1 m s kk (w64 (v14 + 1)) z18) (
  some v15)
def r26_Small (m : Nat) (s : Str) : Option (Str) :=
 Option.bind (
 r26_Small_L1 m s m 0 (ofB s)) fun (z11 : List Int) =>
 some (toB z11)
def r26_Named_L1 (m : Nat) (s : Str) (y6 : List Str) (y11 : List TColor) : Nat → Int → Option (Sum (TColor × Int) (Unit))
 | 0, _ => none
 | kk + 1, v21 =>
  cond (decide (v21 < (ln y6))) (
  chk (0 ≤ v21 ∧ v21 < ln y6) <|
  Option.bind (r26_Small m s) fun y25 =>
  cond ((gi y6 v21) == y25) (
  chk (0 ≤ v21 ∧ v21 < ln y11) <|
  some (.inl ((gi y11 v21), 0))) (
  r26_Named_L1 m s y6 y11 kk (w64 (v21 + 1)))) (
  some (.inr ()))
def r26_Named (m : Nat) (s : Str) : Option (TColor × Int) :=
 lt (r26_names) fun y6 =>
 lt (r26_colors) fun y11 =>
 Option.bind (
 r26_Named_L1 m s y6 y11 m 0) fun (z18 : Sum (TColor × Int) (Unit)) => sumK z18 fun s_z18 =>
 some ((TColor.mk 0 0 0 0), 6)
def r26_digit_L1 (m : Nat) (c_ : Int) : Nat → Int → Option (Sum (Int) (Unit))
 | 0, _ => none
 | kk + 1, v6 =>
  cond (decide (v6 < 16)) (
  chk (0 ≤ v6 ∧ v6 < ln [48, 49, 50, 51, 52, 53, 54, 55, 56, 57, 97, 98, 99, 100, 101, 102]) <|
  lt (bat [48, 49, 50, 51, 52, 53, 54, 55, 56, 57, 97, 98, 99, 100, 101, 102] v6) fun x10 =>
  chk ((c_ == x10) = false → 0 ≤ v6 ∧ v6 < ln [48, 49, 50, 51, 52, 53, 54, 55, 56, 57, 65, 66, 67, 68, 69, 70]) <|
  lt (cond (c_ == x10) true (c_ == (bat [48, 49, 50, 51, 52, 53, 54, 55, 56, 57, 65, 66, 67, 68, 69, 70] v6))) fun x12 =>
  cond x12 (
  some (.inl v6)) (
  r26_digit_L1 m c_ kk (w64 (v6 + 1)))) (
  some (.inr ()))
def r26_digit (m : Nat) (c_ : Int) : Option (Int) :=
 Option.bind (
 r26_digit_L1 m c_ m 0) fun (z3 : Sum (Int) (Unit)) => sumK z3 fun s_z3 =>
 some (-1)
def r26_hash_L1 (m : Nat) (s : Str) : Nat → (List Int) → Int → Option (Sum (TColor × Bool) (List Int))
 | 0, _, _ => none
 | kk + 1, v12, v14 =>
  cond (decide (v14 < (ln s))) (
  Option.bind (
  chk (0 ≤ v14 ∧ v14 < ln s) <|
  Option.bind (r26_digit m (bat s v14)) fun y19 =>
  cond (decide (y19 < 0)) (
  some (.inl (.inl ((TColor.mk 0 0 0 0), false)))) (
  chk (ln v12 + ln ([y19] : List Int) ≤ 1099511627776) <|
  lt (v12 ++ ([y19] : List Int)) fun q37 =>
  cond (decide ((ln s) ≤ 4)) (
  chk (ln q37 + ln ([y19] : List Int) ≤ 1099511627776) <|
  lt (q37 ++ ([y19] : List Int)) fun q52 =>
  some (.inr q52)) (
  some (.inr q37)))) fun (z17 : Sum (Sum (TColor × Bool) (List Int)) (List Int)) => sumK z17 fun s_z17 =>
  r26_hash_L1 m s kk s_z17 (w64 (v14 + 1))) (
  some (.inr v12))
def r26_hash_L2 (m : Nat) (z77 : List Int) : Nat → Int → (List Int) → Option (List Int)
 | 0, _, _ => none
 | kk + 1, v101, v102 =>
  cond (decide (v101 < 4)) (
  chk (0 ≤ (w64 (2 * v101)) ∧ (w64 (2 * v101)) < ln z77) <|
  chk (0 ≤ (w64 ((w64 (2 * v101)) + 1)) ∧ (w64 ((w64 (2 * v101)) + 1)) < ln z77) <|
  lt (w64 ((w64 (16 * (gi z77 (w64 (2 * v101))))) + (gi z77 (w64 ((w64 (2 * v101)) + 1))))) fun x108 =>
  chk (0 ≤ v101 ∧ v101 < (4 : Int)) <|
  lt (seti v102 v101 (wu8 x108)) fun q110 =>
  r26_hash_L2 m z77 kk (w64 (v101 + 1)) q110) (
  some v102)
def r26_hash (m : Nat) (s : Str) : Option (TColor × Bool) :=
 Option.bind (
 r26_hash_L1 m s m ([] : List Int) 0) fun (z8 : Sum (TColor × Bool) (List Int)) => sumK z8 fun s_z8 =>
 lt (cond (cond ((ln s) != 3) ((ln s) != 4) false) ((ln s) != 6) false) fun x68 =>
 cond (cond x68 ((ln s) != 8) false) (
 some ((TColor.mk 0 0 0 0), false)) (
 Option.bind (
 cond ((ln s_z8) == 6) (
 chk (ln s_z8 + ln ([15, 15] : List Int) ≤ 1099511627776) <|
 lt (s_z8 ++ ([15, 15] : List Int)) fun q87 =>
 some q87) (
 some s_z8)) fun (z77 : List Int) =>
 Option.bind (
 r26_hash_L2 m z77 m 0 [0, 0, 0, 0]) fun (z98 : List Int) =>
 chk (0 ≤ (0 : Int) ∧ (0 : Int) < (4 : Int)) <|
 chk (0 ≤ (1 : Int) ∧ (1 : Int) < (4 : Int)) <|
 chk (0 ≤ (2 : Int) ∧ (2 : Int) < (4 : Int)) <|
 chk (0 ≤ (3 : Int) ∧ (3 : Int) < (4 : Int)) <|
 some ((TColor.mk (gi z98 (0 : Int)) (gi z98 (1 : Int)) (gi z98 (2 : Int)) (gi z98 (3 : Int))), true))
def r26_Spaceless_L1 (m : Nat) (l_ : List TValue) : Nat → (List TValue) → Int → Option (List TValue)
 | 0, _, _ => none
 | kk + 1, v9, v11 =>
  cond (decide (v11 < (ln l_))) (
  Option.bind (
  chk (0 ≤ v11 ∧ v11 < ln l_) <|
  cond (((gi l_ v11).Token.Kind) != 13) (
  chk (ln v9 + ln ([(gi l_ v11)] : List TValue) ≤ 1099511627776) <|
  lt (v9 ++ ([(gi l_ v11)] : List TValue)) fun q26 =>
  some q26) (
  some v9)) fun (z14 : List TValue) =>
  r26_Spaceless_L1 m l_ kk z14 (w64 (v11 + 1))) (
  some v9)
def r26_Spaceless (m : Nat) (l_ : List TValue) : Option (List TValue) :=
 Option.bind (
 r26_Spaceless_L1 m l_ m ([] : List TValue) 0) fun (z5 : List TValue) =>
 some z5
def r26_held (n_ : Int) (low : Int) (high_ : Int) : Int :=
 lt (if low < if n_ < high_ then n_ else high_ then if n_ < high_ then n_ else high_ else low) fun x3 =>
 x3
def r26_rgb_L1 (m : Nat) (y8 : List TValue) : Nat → (List Int) → (List Int) → Int → Int → Option (Sum (TColor × Bool) ((List Int) × (List Int) × Int))
 | 0, _, _, _, _ => none
 | kk + 1, v26, v28, v30, v31 =>
  cond (decide (v31 < (ln y8))) (
  Option.bind (
  chk (0 ≤ v31 ∧ v31 < ln y8) <|
  cond (((gi y8 v31).Token.Kind) == 10) (
  Option.bind (
  cond (decide (0 < (ln v26))) (
  chk (ln v28 + ln ([v30] : List Int) ≤ 1099511627776) <|
  lt (v28 ++ ([v30] : List Int)) fun q55 =>
  some q55) (
  some v28)) fun (z45 : List Int) =>
  chk (ln v26 + ln ([(gi y8 v31).Token.Num] : List Int) ≤ 1099511627776) <|
  lt (v26 ++ ([(gi y8 v31).Token.Num] : List Int)) fun q70 =>
  some (.inr (0, z45, q70))) (
  cond (cond (v30 != 0) true ((ln v26) == 0)) (
  some (.inl (.inl ((TColor.mk 0 0 0 0), false)))) (
  cond (((gi y8 v31).Token.Kind) == 18) (
  some (.inr (1, v28, v26))) (
  lt (cond (((gi y8 v31).Token.Kind) == 9) (((gi y8 v31).Token.Text) == [47]) false) fun x91 =>
  cond x91 (
  some (.inr (2, v28, v26))) (
  some (.inl (.inl ((TColor.mk 0 0 0 0), false)))))))) fun (z34 : Sum (Sum (TColor × Bool) ((List Int) × (List Int) × Int)) (Int × (List Int) × (List Int))) => sumK z34 fun s_z34 =>
  r26_rgb_L1 m y8 kk s_z34.2.2 s_z34.2.1 s_z34.1 (w64 (v31 + 1))) (
  some (.inr (v26, v28, v30)))
def r26_rgb_L2 (m : Nat) (s_z21 : (List Int) × (List Int) × Int) : Nat → Int → (List Int) → Option (List Int)
 | 0, _, _ => none
 | kk + 1, v160, v161 =>
  cond (decide (v160 < 3)) (
  chk (0 ≤ v160 ∧ v160 < ln s_z21.1) <|
  lt (r26_held (w64 (Int.tdiv (gi s_z21.1 v160) 1000)) 0 255) fun y165 =>
  chk (0 ≤ v160 ∧ v160 < (3 : Int)) <|
  lt (seti v161 v160 (wu8 y165)) fun q171 =>
  r26_rgb_L2 m s_z21 kk (w64 (v160 + 1)) q171) (
  some v161)
def r26_rgb (m : Nat) (l_ : List TValue) : Option (TColor × Bool) :=
 Option.bind (r26_Spaceless m l_) fun y8 =>
 Option.bind (
 r26_rgb_L1 m y8 m ([] : List Int) ([] : List Int) 0 0) fun (z21 : Sum (TColor × Bool) ((List Int) × (List Int) × Int)) => sumK z21 fun s_z21 =>
 lt (cond (s_z21.2.2 != 0) true (cond ((ln s_z21.1) != 3) ((ln s_z21.1) != 4) false)) fun x117 =>
 chk (x117 = false → 0 ≤ (0 : Int) ∧ (0 : Int) < ln s_z21.2.1) <|
 lt (cond x117 true ((gi s_z21.2.1 (0 : Int)) == 2)) fun x119 =>
 chk (x119 = false → 0 ≤ (1 : Int) ∧ (1 : Int) < ln s_z21.2.1) <|
 chk (x119 = false → 0 ≤ (0 : Int) ∧ (0 : Int) < ln s_z21.2.1) <|
 lt (cond x119 true ((gi s_z21.2.1 (1 : Int)) != (gi s_z21.2.1 (0 : Int)))) fun x122 =>
 cond x122 (
 some ((TColor.mk 0 0 0 0), false)) (
 Option.bind (
 cond ((ln s_z21.1) == 4) (
 chk (0 ≤ (0 : Int) ∧ (0 : Int) < ln s_z21.2.1) <|
 chk (((gi s_z21.2.1 (0 : Int)) == 1) = true → 0 ≤ (2 : Int) ∧ (2 : Int) < ln s_z21.2.1) <|
 lt (cond ((gi s_z21.2.1 (0 : Int)) == 1) ((gi s_z21.2.1 (2 : Int)) != 1) false) fun x138 =>
 chk (((gi s_z21.2.1 (0 : Int)) == 0) = true → x138 = false → 0 ≤ (2 : Int) ∧ (2 : Int) < ln s_z21.2.1) <|
 lt (cond x138 true (cond ((gi s_z21.2.1 (0 : Int)) == 0) ((gi s_z21.2.1 (2 : Int)) != 2) false)) fun x140 =>
 cond x140 (
 some (.inl ((TColor.mk 0 0 0 0), false))) (
 chk (0 ≤ (3 : Int) ∧ (3 : Int) < ln s_z21.1) <|
 some (.inr (r26_held (gi s_z21.1 (3 : Int)) 0 1000)))) (
 some (.inr 1000))) fun (z133 : Sum (TColor × Bool) (Int)) => sumK z133 fun s_z133 =>
 Option.bind (
 r26_rgb_L2 m s_z21 m 0 [0, 0, 0]) fun (z157 : List Int) =>
 chk (0 ≤ (0 : Int) ∧ (0 : Int) < (3 : Int)) <|
 chk (0 ≤ (1 : Int) ∧ (1 : Int) < (3 : Int)) <|
 chk (0 ≤ (2 : Int) ∧ (2 : Int) < (3 : Int)) <|
 lt (wu8 (w64 (Int.tdiv (w64 (s_z133 * 255)) 1000))) fun x179 =>
 some ((TColor.mk (gi z157 (0 : Int)) (gi z157 (1 : Int)) (gi z157 (2 : Int)) x179), true))
def r26_color (m : Nat) (v_ : TValue) : Option (TColor × Bool) :=
 Option.bind (
 cond (v_.Token.Kind == 1) (
 Option.bind (r26_Named m v_.Token.Text) fun y14 =>
 some (.inl (y14.1, y14.2 == 0))) (
 cond (v_.Token.Kind == 4) (
 Option.bind (r26_hash m v_.Token.Text) fun y32 =>
 some (.inl (y32.1, y32.2))) (
 cond (v_.Token.Kind == 2) (
 Option.bind (r26_Small m v_.Token.Text) fun y41 =>
 lt (cond (y41 == [114, 103, 98]) true (y41 == [114, 103, 98, 97])) fun x44 =>
 cond x44 (
 Option.bind (r26_rgb m v_.List_) fun y47 =>
 some (.inl (y47.1, y47.2))) (
 some (.inr ()))) (
 some (.inr ()))))) fun (z9 : Sum (TColor × Bool) (Unit)) => sumK z9 fun s_z9 =>
 some ((TColor.mk 0 0 0 0), false)
def r26_maybe_L1 (m : Nat) (v_ : TValue) : Nat → (List TVal) → Int → Option (List TVal)
 | 0, _, _ => none
 | kk + 1, v93, v95 =>
  cond (decide (v95 < 3)) (
  Option.bind (
  Option.bind (r26_Small m v_.Token.Unit) fun y99 =>
  chk (0 ≤ v95 ∧ v95 < ln ([[112, 120], [101, 109], [114, 101, 109]] : List Str)) <|
  lt ((gi ([[112, 120], [101, 109], [114, 101, 109]] : List Str) v95)) fun x101 =>
  cond (y99 == x101) (
  chk (ln v93 + ln ([(TVal.mk (wu8 (2 + (wu8 v95))) [] v_.Token.Num (TColor.mk 0 0 0 0))] : List TVal) ≤ 1099511627776) <|
  lt (v93 ++ ([(TVal.mk (wu8 (2 + (wu8 v95))) [] v_.Token.Num (TColor.mk 0 0 0 0))] : List TVal)) fun q111 =>
  some q111) (
  some v93)) fun (z98 : List TVal) =>
  r26_maybe_L1 m v_ kk z98 (w64 (v95 + 1))) (
  some v93)
def r26_maybe (m : Nat) (v_ : TValue) : Option (List TVal) :=
 Option.bind (
 Option.bind (r26_color m v_) fun y16 =>
 cond y16.2 (
 chk (ln ([] : List TVal) + ln ([(TVal.mk 7 [] 0 y16.1)] : List TVal) ≤ 1099511627776) <|
 lt (([] : List TVal) ++ ([(TVal.mk 7 [] 0 y16.1)] : List TVal)) fun q36 =>
 some q36) (
 some ([] : List TVal))) fun (z15 : List TVal) =>
 Option.bind (
 cond (v_.Token.Kind == 1) (
 Option.bind (r26_Small m v_.Token.Text) fun y51 =>
 chk (ln z15 + ln ([(TVal.mk 1 y51 0 (TColor.mk 0 0 0 0))] : List TVal) ≤ 1099511627776) <|
 lt (z15 ++ ([(TVal.mk 1 y51 0 (TColor.mk 0 0 0 0))] : List TVal)) fun q59 =>
 Option.bind (r26_Small m v_.Token.Text) fun y65 =>
 lt (y65 == [99, 117, 114, 114, 101, 110, 116, 99, 111, 108, 111, 114]) fun x66 =>
 cond x66 (
 chk (ln q59 + ln ([(TVal.mk 8 [] 0 (TColor.mk 0 0 0 0))] : List TVal) ≤ 1099511627776) <|
 lt (q59 ++ ([(TVal.mk 8 [] 0 (TColor.mk 0 0 0 0))] : List TVal)) fun q76 =>
 some q76) (
 some q59)) (
 cond (v_.Token.Kind == 12) (
 r26_maybe_L1 m v_ m z15 0) (
 cond (v_.Token.Kind == 10) (
 Option.bind (
 cond v_.Token.Flag (
 chk (ln z15 + ln ([(TVal.mk 6 [] (w64 (Int.tdiv v_.Token.Num 1000)) (TColor.mk 0 0 0 0))] : List TVal) ≤ 1099511627776) <|
 lt (z15 ++ ([(TVal.mk 6 [] (w64 (Int.tdiv v_.Token.Num 1000)) (TColor.mk 0 0 0 0))] : List TVal)) fun q136 =>
 some q136) (
 some z15)) fun (z126 : List TVal) =>
 chk (ln z126 + ln ([(TVal.mk 5 [] v_.Token.Num (TColor.mk 0 0 0 0))] : List TVal) ≤ 1099511627776) <|
 lt (z126 ++ ([(TVal.mk 5 [] v_.Token.Num (TColor.mk 0 0 0 0))] : List TVal)) fun q151 =>
 cond (v_.Token.Num == 0) (
 chk (ln q151 + ln ([(TVal.mk 2 [] 0 (TColor.mk 0 0 0 0))] : List TVal) ≤ 1099511627776) <|
 lt (q151 ++ ([(TVal.mk 2 [] 0 (TColor.mk 0 0 0 0))] : List TVal)) fun q166 =>
 some q166) (
 some q151)) (
 some z15)))) fun (z46 : List TVal) =>
 some z46
def r26_Parse_L1 (m : Nat) (prop : Int) (y29 : List TVal) : Nat → Int → Option (Sum (TVal × Int) (Unit))
 | 0, _ => none
 | kk + 1, v39 =>
  cond (decide (v39 < (ln y29))) (
  chk (0 ≤ v39 ∧ v39 < ln y29) <|
  Option.bind (r25_Has 64 prop (gi y29 v39)) fun y43 =>
  cond y43.1 (
  some (.inl ((gi y29 v39), 0))) (
  r26_Parse_L1 m prop y29 kk (w64 (v39 + 1)))) (
  some (.inr ()))
def r26_Parse (m : Nat) (prop : Int) (l_ : List TValue) : Option (TVal × Int) :=
 Option.bind (r25_Has 64 prop (TVal.mk 0 [] 0 (TColor.mk 0 0 0 0))) fun y6 =>
 cond (y6.2 != 0) (
 some ((TVal.mk 0 [] 0 (TColor.mk 0 0 0 0)), 2)) (
 cond ((ln l_) != 1) (
 some ((TVal.mk 0 [] 0 (TColor.mk 0 0 0 0)), 12)) (
 chk (0 ≤ (0 : Int) ∧ (0 : Int) < ln l_) <|
 Option.bind (r26_maybe m (gi l_ (0 : Int))) fun y29 =>
 Option.bind (
 r26_Parse_L1 m prop y29 m 0) fun (z36 : Sum (TVal × Int) (Unit)) => sumK z36 fun s_z36 =>
 some ((TVal.mk 0 [] 0 (TColor.mk 0 0 0 0)), 12)))
def r27_right (m : Nat) (name_ : Str) (l_ : List TValue) : Option (Bool) :=
 Option.bind (r25_Find 64 name_) fun y3 =>
 cond (y3.2 != 0) (
 some false) (
 Option.bind (r26_Parse m y3.1 l_) fun y10 =>
 some (y10.2 == 0))
def r27_Parted_L1 (m : Nat) (z11 : List (List TValue)) (y28 : List Str) : Nat → Int → Option (Sum (List (List TValue)) (Unit))
 | 0, _ => none
 | kk + 1, v43 =>
  cond (decide (v43 < (ln z11))) (
  chk (0 ≤ v43 ∧ v43 < ln y28) <|
  chk (0 ≤ v43 ∧ v43 < ln z11) <|
  Option.bind (r27_right m (gi y28 v43) (gi z11 v43)) fun y48 =>
  cond (!y48) (
  some (.inl ([] : List (List TValue)))) (
  r27_Parted_L1 m z11 y28 kk (w64 (v43 + 1)))) (
  some (.inr ()))
def r27_Parted (m : Nat) (whole : Str) (l_ : List TValue) : Option (List (List TValue)) :=
 Option.bind (
 cond (whole == [109, 97, 114, 103, 105, 110]) (
 Option.bind (r27_parts m l_) fun y16 =>
 some y16) (
 some ([l_] : List (List TValue)))) fun (z11 : List (List TValue)) =>
 Option.bind (r27_longs whole) fun y28 =>
 cond ((ln z11) != (ln y28)) (
 some ([] : List (List TValue))) (
 Option.bind (
 r27_Parted_L1 m z11 y28 m 0) fun (z40 : Sum (List (List TValue)) (Unit)) => sumK z40 fun s_z40 =>
 some z11)
def r26_Twin_L1 (m : Nat) (l_ : List TValue) (rec_r26_Twin : (List TValue) → Option (List TValue)) : Nat → (List TValue) → Int → Option (List TValue)
 | 0, _, _ => none
 | kk + 1, v9, v11 =>
  cond (decide (v11 < (ln l_))) (
  chk (0 ≤ v11 ∧ v11 < ln l_) <|
  Option.bind (rec_r26_Twin ((gi l_ v11).List_)) fun y17 =>
  chk (ln v9 + ln ([(TValue.mk ((gi l_ v11).Token) y17)] : List TValue) ≤ 1099511627776) <|
  lt (v9 ++ ([(TValue.mk ((gi l_ v11).Token) y17)] : List TValue)) fun q23 =>
  r26_Twin_L1 m l_ rec_r26_Twin kk q23 (w64 (v11 + 1))) (
  some v9)
def r26_Twin_r (m : Nat) : Nat → (List TValue) → Option (List TValue)
 | 0, _ => none
 | k + 1, l_ =>
  Option.bind (
  r26_Twin_L1 m l_ (r26_Twin_r m k) m ([] : List TValue) 0) fun (z5 : List TValue) =>
  some z5
def r26_Twin (m : Nat) (l_ : List TValue) : Option (List TValue) := r26_Twin_r m  m l_
def r27_Part_L1 (m : Nat) (long : Str) (y13 : List Str) : Nat → Int → Int → Option (Int)
 | 0, _, _ => none
 | kk + 1, v25, v26 =>
  cond (decide (v26 < (ln y13))) (
  Option.bind (
  chk (0 ≤ v26 ∧ v26 < ln y13) <|
  cond ((gi y13 v26) == long) (
  some v26) (
  some v25)) fun (z29 : Int) =>
  r27_Part_L1 m long y13 kk z29 (w64 (v26 + 1))) (
  some v25)
def r27_Part (m : Nat) (whole : Str) (long : Str) (l_ : List TValue) : Option ((List TValue) × Int) :=
 Option.bind (r04_Check m l_) fun y3 =>
 cond (y3 != 0) (
 some (([] : List TValue), y3)) (
 Option.bind (r27_longs whole) fun y13 =>
 Option.bind (
 r27_Part_L1 m long y13 m (-1) 0) fun (z22 : Int) =>
 cond (decide (z22 < 0)) (
 some (([] : List TValue), 6)) (
 Option.bind (r27_Parted m whole l_) fun y48 =>
 cond ((ln y48) == 0) (
 some (([] : List TValue), 12)) (
 chk (0 ≤ z22 ∧ z22 < ln y48) <|
 Option.bind (r26_Twin m (gi y48 z22)) fun y64 =>
 some (y64, 0))))
def r27_SameTexts_L1 (m : Nat) (a_ : List Str) (b_ : List Str) : Nat → Int → Option (Sum (Bool) (Unit))
 | 0, _ => none
 | kk + 1, v10 =>
  cond (decide (v10 < (ln a_))) (
  chk (0 ≤ v10 ∧ v10 < ln a_) <|
  chk (0 ≤ v10 ∧ v10 < ln b_) <|
  cond (!((gi a_ v10) == (gi b_ v10))) (
  some (.inl false)) (
  r27_SameTexts_L1 m a_ b_ kk (w64 (v10 + 1)))) (
  some (.inr ()))
def r27_SameTexts (m : Nat) (a_ : List Str) (b_ : List Str) : Option (Bool) :=
 cond ((ln a_) != (ln b_)) (
 some false) (
 Option.bind (
 r27_SameTexts_L1 m a_ b_ m 0) fun (z7 : Sum (Bool) (Unit)) => sumK z7 fun s_z7 =>
 some true)
def r04_Same_L1 (m : Nat) (a_ : List TValue) (b_ : List TValue) (rec_r04_Same : (List TValue) → (List TValue) → Option (Bool)) : Nat → Int → Option (Sum (Bool) (Unit))
 | 0, _ => none
 | kk + 1, v10 =>
  cond (decide (v10 < (ln a_))) (
  chk (0 ≤ v10 ∧ v10 < ln a_) <|
  chk (0 ≤ v10 ∧ v10 < ln b_) <|
  lt (!((((gi a_ v10).Token.Kind) == ((gi b_ v10).Token.Kind)) && ((((gi a_ v10).Token.Text) == ((gi b_ v10).Token.Text)) && ((((gi a_ v10).Token.Num) == ((gi b_ v10).Token.Num)) && ((((gi a_ v10).Token.Unit) == ((gi b_ v10).Token.Unit)) && ((((gi a_ v10).Token.Flag) == ((gi b_ v10).Token.Flag)) && true)))))) fun x15 =>
  Option.bind (cond x15 (some default) (rec_r04_Same ((gi a_ v10).List_) ((gi b_ v10).List_))) fun y16 =>
  cond (cond x15 true (!y16)) (
  some (.inl false)) (
  r04_Same_L1 m a_ b_ rec_r04_Same kk (w64 (v10 + 1)))) (
  some (.inr ()))
def r04_Same_r (m : Nat) : Nat → (List TValue) → (List TValue) → Option (Bool)
 | 0, _, _ => none
 | k + 1, a_, b_ =>
  cond ((ln a_) != (ln b_)) (
  some false) (
  Option.bind (
  r04_Same_L1 m a_ b_ (r04_Same_r m k) m 0) fun (z7 : Sum (Bool) (Unit)) => sumK z7 fun s_z7 =>
  some true)
def r04_Same (m : Nat) (a_ : List TValue) (b_ : List TValue) : Option (Bool) := r04_Same_r m  m a_ b_
def law27_ShortParts (m : Nat) (whole : Str) (long : Str) (l_ : List TValue) : Option (Bool) :=
 Option.bind (r04_Great m l_) fun y3 =>
 lt (cond (cond y3 true (decide (200 < (ln whole)))) true (decide (200 < (ln long)))) fun x4 =>
 cond x4 (
 some true) (
 Option.bind (short_Longs 64 whole) fun y11 =>
 Option.bind (r27_Longs 64 whole) fun y20 =>
 Option.bind (short_Part m whole long l_) fun y29 =>
 Option.bind (r27_Part m whole long l_) fun y38 =>
 Option.bind (r27_SameTexts m y11.1 y20.1) fun y45 =>
 Option.bind (cond (cond y45 (y11.2 == y20.2) false) (r04_Same m y29.1 y38.1) (some default)) fun y46 =>
 lt (cond (cond y45 (y11.2 == y20.2) false) y46 false) fun x47 =>
 some (cond x47 (y29.2 == y38.2) false))
structure TA4_int64 where
 e0 : Int
 e1 : Int
 e2 : Int
 e3 : Int
instance : Inhabited TA4_int64 := ⟨⟨default, default, default, default⟩⟩
structure TA2_int where
 e0 : Int
 e1 : Int
instance : Inhabited TA2_int := ⟨⟨default, default⟩⟩
structure TDecl where
 Name : Str
 Value : List TValue
 Important : Bool
instance : Inhabited TDecl := ⟨⟨default, default, default⟩⟩
structure TLong where
 Name : Str
 Value : List TValue
 Whole : Str
instance : Inhabited TLong := ⟨⟨default, default, default⟩⟩
end Go.Proofs.YtpgflfjmjppmeaaGreatDoor

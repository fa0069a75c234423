/-
 DERIVED: THE SHELF's CONTRACTS AT THIS DUMP, IN PLAIN WORDS (tools/lay-plain.mjs out of 'TryzShelf.lean', which tools/lay-shelf.mjs wrote): THE SAME DECLARATIONS UNDER THE SAME NAMES: 'import', 'namespace', 'open', 'def', 'theorem' AND NOTHING ELSE: no command of the shelf's: FOR A HAND-IN. Each laying: the table of numbers ('.._ren') and one theorem, a field a fact of the dump's own or the kernel's comparison; each contract: ONE APPLICATION.
-/
import Derived.Shelf.Strings.Builder1
import Derived.Shelf.Strings.Builder2
import Derived.Shelf.Strings.Trim
import Derived.Shelf.Small.Utf8
import Derived.Shelf.Small.Strs
import Derived.Shelf.Strconv.Itoa0
import Derived.Shelf.Strconv.Itoa1
import Derived.Shelf.LaysM
import Derived.Shelf.Strconv.Itoa2
import Derived.Shelf.Strconv.Itoa3
import Derived.Shelf.Strconv.Itoa4
import Derived.Shelf.Strings.Search1
import Derived.Shelf.Strings.Fields
import Derived.Shelf.Strings.SplitShaped
import Derived.Shelf.Unicode.Latin
import Derived.Shelf.Unicode.Decode
import Derived.Shelf.Strings.Runes
import Derived.Shelf.Strings.AsciiSet
import Derived.Shelf.Unicode.DecodeSlow
import Derived.Shelf.Unicode.DecodeAny
import Derived.Shelf.Unicode.Is16White
import Derived.Shelf.Unicode.IsSpaceAny
import Derived.Shelf.Unicode.DecodeLast
import Derived.Shelf.Unicode.Is16Any
import Derived.Shelf.Unicode.Is32Any
import Derived.Shelf.Unicode.ExclAny
import Derived.Test.YtemchjneoalnoaaGreatDoorProg
namespace Go.Proofs
open Go.Shelf
def Tryz.laysM171_ren : Go.Shelf.Ren := ⟨fun | 171 => 28 | 243 => 44 | 246 => 48 | 283 => 66 | 284 => 67 | 285 => 68 | 286 => 69 | 129 => 85 | 317 => 84 | 318 => 86 | 319 => 87 | 320 => 88 | 337 => 108 | 338 => 109 | n => n, fun | 3 => 3 | 9 => 9 | 2 => 2 | 4 => 4 | 171 => 114 | 0 => 0 | 53 => 115 | 37 => 63 | 5 => 5 | 173 => 118 | 212 => 144 | 51 => 145 | 20 => 20 | 213 => 146 | 46 => 122 | 232 => 177 | 233 => 178 | n => n, fun | 17 => 0 | 18 => 4 | 19 => 5 | n => n⟩
theorem Tryz.laysM171 : Go.Proofs.LaysM.n171 Tryz.prog Tryz.laysM171_ren := {
 mixed := by kernel_rfl
 f129 := Tryz.func85.trans (congrArg some (by kernel_rfl))
 f171 := Tryz.func28.trans (congrArg some (by kernel_rfl))
 f243 := Tryz.func44.trans (congrArg some (by kernel_rfl))
 f246 := Tryz.func48.trans (congrArg some (by kernel_rfl))
 f283 := Tryz.func66.trans (congrArg some (by kernel_rfl))
 f284 := Tryz.func67.trans (congrArg some (by kernel_rfl))
 f285 := Tryz.func68.trans (congrArg some (by kernel_rfl))
 f286 := Tryz.func69.trans (congrArg some (by kernel_rfl))
 f317 := Tryz.func84.trans (congrArg some (by kernel_rfl))
 f318 := Tryz.func86.trans (congrArg some (by kernel_rfl))
 f319 := Tryz.func87.trans (congrArg some (by kernel_rfl))
 f320 := Tryz.func88.trans (congrArg some (by kernel_rfl))
 f337 := Tryz.func108.trans (congrArg some (by kernel_rfl))
 f338 := Tryz.func109.trans (congrArg some (by kernel_rfl))
 t0 := Tryz.underlying0
 a0 := Tryz.isAgg0
 z0 := Tryz.sizeOf0
 v0 := Tryz.zeroValue0
 t2 := Tryz.underlying2
 a2 := Tryz.isAgg2
 z2 := Tryz.sizeOf2
 v2 := Tryz.zeroValue2
 t3 := Tryz.underlying3
 a3 := Tryz.isAgg3
 z3 := Tryz.sizeOf3
 v3 := Tryz.zeroValue3
 t4 := Tryz.underlying4
 a4 := Tryz.isAgg4
 z4 := Tryz.sizeOf4
 v4 := Tryz.zeroValue4
 t5 := Tryz.underlying5
 a5 := Tryz.isAgg5
 z5 := Tryz.sizeOf5
 v5 := Tryz.zeroValue5
 t9 := Tryz.underlying9
 a9 := Tryz.isAgg9
 z9 := Tryz.sizeOf9
 v9 := Tryz.zeroValue9
 t20 := Tryz.underlying20
 a20 := Tryz.isAgg20
 z20 := Tryz.sizeOf20
 v20 := Tryz.zeroValue20
 t37 := Tryz.underlying63
 a37 := Tryz.isAgg63
 z37 := Tryz.sizeOf63
 v37 := Tryz.zeroValue63
 t46 := Tryz.underlying122
 a46 := Tryz.isAgg122
 z46 := Tryz.sizeOf122
 v46 := Tryz.zeroValue122
 t51 := Tryz.underlying145
 a51 := Tryz.isAgg145
 z51 := Tryz.sizeOf145
 v51 := Tryz.zeroValue145
 t53 := Tryz.underlying115
 a53 := Tryz.isAgg115
 z53 := Tryz.sizeOf115
 v53 := Tryz.zeroValue115
 t171 := Tryz.underlying114
 a171 := Tryz.isAgg114
 z171 := Tryz.sizeOf114
 v171 := Tryz.zeroValue114
 t173 := Tryz.underlying118
 a173 := Tryz.isAgg118
 z173 := Tryz.sizeOf118
 v173 := Tryz.zeroValue118
 t212 := Tryz.underlying144
 a212 := Tryz.isAgg144
 z212 := Tryz.sizeOf144
 v212 := Tryz.zeroValue144
 t213 := Tryz.underlying146
 a213 := Tryz.isAgg146
 z213 := Tryz.sizeOf146
 t232 := Tryz.underlying177
 a232 := Tryz.isAgg177
 z232 := Tryz.sizeOf177
 v232 := Tryz.zeroValue177
 t233 := Tryz.underlying178
 a233 := Tryz.isAgg178
 z233 := Tryz.sizeOf178
 v233 := Tryz.zeroValue178
 g17 := by kernel_rfl
 g18 := by kernel_rfl
 g19 := by kernel_rfl
 i0 := by kernel_rfl
 i2 := by kernel_rfl
 i3 := by kernel_rfl
 i4 := by kernel_rfl
 i5 := by kernel_rfl
 i9 := by kernel_rfl
 i20 := by kernel_rfl
 i37 := by kernel_rfl
 i46 := by kernel_rfl
 i51 := by kernel_rfl
 i53 := by kernel_rfl
 i171 := by kernel_rfl
 i173 := by kernel_rfl
 i212 := by kernel_rfl
 i232 := by kernel_rfl
 i233 := by kernel_rfl
 m17 := by kernel_rfl
 m18 := by kernel_rfl
 m19 := by kernel_rfl }
open Go.RowKit Go.Sort Go.Lib in
theorem Tryz.strconv_Itoa (n : Int) (h0 : -9223372036854775808 ≤ n) (h1 : n ≤ 9223372036854775807) (w : World) (htab : Lib.TabIs Tryz.prog w "internal/strconv.uint64pow10" .u64 Lib.pow10Tab) :
  Calls Tryz.prog 28 #[.int .i64 n] w fun e w' => e = .returned (.string ⟨(Lib.itoa n).toArray⟩) ∧ ∃ k os, w' = grow (w.drewN k) os := Any.strconv_Itoa Tryz.laysM171 n h0 h1 w htab
def Tryz.lays157_ren : Go.Shelf.Ren := ⟨fun | 157 => 81 | 229 => 106 | 199 => 107 | 261 => 127 | 311 => 143 | 312 => 144 | n => n, fun | 9 => 9 | 31 => 46 | 3 => 3 | 5 => 5 | 4 => 4 | 119 => 157 | 0 => 0 | 40 => 159 | 152 => 172 | 21 => 21 | 154 => 174 | 51 => 145 | 141 => 176 | 196 => 188 | 193 => 185 | 198 => 191 | 49 => 189 | 194 => 186 | 201 => 194 | 226 => 202 | 46 => 122 | 227 => 203 | n => n, fun | 0 => 1 | 6 => 3 | n => n⟩
theorem Tryz.lays157 : Go.Proofs.Lays.n157 Tryz.prog Tryz.lays157_ren := {
 mixed := by kernel_rfl
 f157 := Tryz.func81.trans (congrArg some (by kernel_rfl))
 f199 := Tryz.func107.trans (congrArg some (by kernel_rfl))
 f229 := Tryz.func106.trans (congrArg some (by kernel_rfl))
 f261 := Tryz.func127.trans (congrArg some (by kernel_rfl))
 f311 := Tryz.func143.trans (congrArg some (by kernel_rfl))
 f312 := Tryz.func144.trans (congrArg some (by kernel_rfl))
 t0 := Tryz.underlying0
 a0 := Tryz.isAgg0
 z0 := Tryz.sizeOf0
 v0 := Tryz.zeroValue0
 t3 := Tryz.underlying3
 a3 := Tryz.isAgg3
 z3 := Tryz.sizeOf3
 v3 := Tryz.zeroValue3
 t4 := Tryz.underlying4
 a4 := Tryz.isAgg4
 z4 := Tryz.sizeOf4
 v4 := Tryz.zeroValue4
 t5 := Tryz.underlying5
 a5 := Tryz.isAgg5
 z5 := Tryz.sizeOf5
 v5 := Tryz.zeroValue5
 t9 := Tryz.underlying9
 a9 := Tryz.isAgg9
 z9 := Tryz.sizeOf9
 v9 := Tryz.zeroValue9
 t21 := Tryz.underlying21
 a21 := Tryz.isAgg21
 z21 := Tryz.sizeOf21
 v21 := Tryz.zeroValue21
 t31 := Tryz.underlying46
 a31 := Tryz.isAgg46
 z31 := Tryz.sizeOf46
 v31 := Tryz.zeroValue46
 t40 := Tryz.underlying159
 a40 := Tryz.isAgg159
 z40 := Tryz.sizeOf159
 v40 := Tryz.zeroValue159
 t46 := Tryz.underlying122
 a46 := Tryz.isAgg122
 z46 := Tryz.sizeOf122
 v46 := Tryz.zeroValue122
 t49 := Tryz.underlying189
 a49 := Tryz.isAgg189
 z49 := Tryz.sizeOf189
 v49 := Tryz.zeroValue189
 t51 := Tryz.underlying145
 a51 := Tryz.isAgg145
 z51 := Tryz.sizeOf145
 v51 := Tryz.zeroValue145
 t119 := Tryz.underlying157
 a119 := Tryz.isAgg157
 z119 := Tryz.sizeOf157
 t141 := Tryz.underlying176
 a141 := Tryz.isAgg176
 z141 := Tryz.sizeOf176
 v141 := Tryz.zeroValue176
 t152 := Tryz.underlying172
 a152 := Tryz.isAgg172
 z152 := Tryz.sizeOf172
 v152 := Tryz.zeroValue172
 t154 := Tryz.underlying174
 a154 := Tryz.isAgg174
 z154 := Tryz.sizeOf174
 v154 := Tryz.zeroValue174
 t193 := Tryz.underlying185
 a193 := Tryz.isAgg185
 z193 := Tryz.sizeOf185
 v193 := Tryz.zeroValue185
 t194 := Tryz.underlying186
 a194 := Tryz.isAgg186
 z194 := Tryz.sizeOf186
 v194 := Tryz.zeroValue186
 t196 := Tryz.underlying188
 a196 := Tryz.isAgg188
 z196 := Tryz.sizeOf188
 v196 := Tryz.zeroValue188
 t198 := Tryz.underlying191
 a198 := Tryz.isAgg191
 z198 := Tryz.sizeOf191
 v198 := Tryz.zeroValue191
 t201 := Tryz.underlying194
 a201 := Tryz.isAgg194
 z201 := Tryz.sizeOf194
 v201 := Tryz.zeroValue194
 t226 := Tryz.underlying202
 a226 := Tryz.isAgg202
 z226 := Tryz.sizeOf202
 v226 := Tryz.zeroValue202
 t227 := Tryz.underlying203
 a227 := Tryz.isAgg203
 z227 := Tryz.sizeOf203
 v227 := Tryz.zeroValue203
 g0 := by kernel_rfl
 g6 := by kernel_rfl }
open Go.RowKit Go.Lib in
theorem Tryz.strings_Fields (s : ByteArray) (w : World) (hs : s.size < 4294967281) (hascii : ∀ (j : Nat) b, s.data.toList[j]? = some b → b.toNat < 128) (htab : Lib.TabIs Tryz.prog w "strings.asciiSpace" .u8 Lib.asciiSpaceTab) :
  Calls Tryz.prog 81 #[.string s] w fun e w' =>
   e = .returned (.slice (some ⟨w.heap.size, 0, none⟩) (Lib.fields s.data.toList).length (Lib.fields s.data.toList).length) ∧ w' = w.alloc (.cells ((Lib.fields s.data.toList).map fun l => Value.string ⟨l.toArray⟩).toArray 9) := Any.strings_Fields Tryz.lays157 (by kernel_rfl) (by kernel_rfl) s w hs hascii htab
end Go.Proofs

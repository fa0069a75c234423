/-
  DERIVED: THE SHELF's CONTRACTS AT THIS DUMP, IN PLAIN WORDS (tools/lay-plain.mjs out of 'TryzShelf.lean', which tools/lay-shelf.mjs wrote): THE SAME DECLARATIONS UNDER THE SAME NAMES: 'import', 'namespace', 'open', 'def', 'theorem' AND NOTHING ELSE: no command of the shelf's: FOR A HAND-IN. Each laying: the table of numbers ('.._ren') and one theorem, a field a fact of the dump's own or the kernel's comparison; each contract: ONE APPLICATION.
-/
import Derived.Shelf.Strings.Builder1
import Derived.Shelf.Strings.Builder2
import Derived.Shelf.Strings.Trim
import Derived.Shelf.Small.Utf8
import Derived.Shelf.Small.Strs
import Derived.Shelf.Utf8.RuneCount
import Derived.Shelf.Strconv.Itoa0
import Derived.Shelf.Strconv.Itoa1
import Derived.Shelf.LaysM
import Derived.Shelf.Strconv.Itoa2
import Derived.Shelf.Strconv.Itoa3
import Derived.Shelf.Strconv.Itoa4
import Derived.Shelf.Strings.Search1
import Derived.Shelf.Strings.Search2
import Derived.Shelf.Strings.Search3
import Derived.Shelf.Strings.Cut
import Derived.Shelf.Strings.Count
import Derived.Shelf.Strings.Shaped
import Derived.Shelf.Strings.Prefix
import Derived.Shelf.Strings.Split
import Derived.Shelf.Unicode.Decode
import Derived.Shelf.Strings.Runes
import Derived.Shelf.Strings.RuneCount
import Derived.Shelf.Strings.IndexAny
import Derived.Shelf.Strings.AsciiSet
import Derived.Shelf.Strings.IndexAnyAll
import Derived.Shelf.Unicode.DecodeSlow
import Derived.Shelf.Unicode.DecodeAny
import Derived.Test.YtpobihiejncdgaaGreatDoorProg
namespace Go.Proofs
open Go.Shelf
def Tryz.a5g:Go.Shelf.Ren:=⟨fun|161=>122|231=>162|227=>163|233=>164|235=>165|228=>168|197=>194|151=>195|260=>215|152=>166|137=>86|119=>196|224=>155|225=>154|217=>121|266=>161|n=>n,fun|9=>9|4=>4|3=>3|5=>5|117=>200|116=>199|0=>0|124=>203|105=>220|21=>21|119=>156|46=>194|139=>240|138=>239|n=>n,fun|3=>2|4=>3|n=>n⟩
theorem Tryz.a5h:Go.Proofs.Lays.n161 Tryz.prog Tryz.a5g:={
  mixed:=by kernel_rfl
  f119:=Tryz.func196.trans (congrArg some (by kernel_rfl))
  f137:=Tryz.func86.trans (congrArg some (by kernel_rfl))
  f151:=Tryz.func195.trans (congrArg some (by kernel_rfl))
  f152:=Tryz.func166.trans (congrArg some (by kernel_rfl))
  f161:=Tryz.func122.trans (congrArg some (by kernel_rfl))
  f197:=Tryz.func194.trans (congrArg some (by kernel_rfl))
  f217:=Tryz.func121.trans (congrArg some (by kernel_rfl))
  f224:=Tryz.func155.trans (congrArg some (by kernel_rfl))
  f225:=Tryz.func154.trans (congrArg some (by kernel_rfl))
  f227:=Tryz.func163.trans (congrArg some (by kernel_rfl))
  f228:=Tryz.func168.trans (congrArg some (by kernel_rfl))
  f231:=Tryz.func162.trans (congrArg some (by kernel_rfl))
  f233:=Tryz.func164.trans (congrArg some (by kernel_rfl))
  f235:=Tryz.func165.trans (congrArg some (by kernel_rfl))
  f260:=Tryz.func215.trans (congrArg some (by kernel_rfl))
  f266:=Tryz.func161.trans (congrArg some (by kernel_rfl))
  t0:=Tryz.underlying0
  a0:=Tryz.isAgg0
  z0:=Tryz.sizeOf0
  v0:=Tryz.zeroValue0
  t3:=Tryz.underlying3
  a3:=Tryz.isAgg3
  z3:=Tryz.sizeOf3
  v3:=Tryz.zeroValue3
  t4:=Tryz.underlying4
  a4:=Tryz.isAgg4
  z4:=Tryz.sizeOf4
  v4:=Tryz.zeroValue4
  t5:=Tryz.underlying5
  a5:=Tryz.isAgg5
  z5:=Tryz.sizeOf5
  v5:=Tryz.zeroValue5
  t9:=Tryz.underlying9
  a9:=Tryz.isAgg9
  z9:=Tryz.sizeOf9
  v9:=Tryz.zeroValue9
  t21:=Tryz.underlying21
  a21:=Tryz.isAgg21
  z21:=Tryz.sizeOf21
  v21:=Tryz.zeroValue21
  t46:=Tryz.underlying194
  a46:=Tryz.isAgg194
  z46:=Tryz.sizeOf194
  v46:=Tryz.zeroValue194
  t105:=Tryz.underlying220
  a105:=Tryz.isAgg220
  z105:=Tryz.sizeOf220
  v105:=Tryz.zeroValue220
  t116:=Tryz.underlying199
  a116:=Tryz.isAgg199
  z116:=Tryz.sizeOf199
  t117:=Tryz.underlying200
  a117:=Tryz.isAgg200
  z117:=Tryz.sizeOf200
  v117:=Tryz.zeroValue200
  t119:=Tryz.underlying156
  a119:=Tryz.isAgg156
  z119:=Tryz.sizeOf156
  t124:=Tryz.underlying203
  a124:=Tryz.isAgg203
  z124:=Tryz.sizeOf203
  v124:=Tryz.zeroValue203
  t138:=Tryz.underlying239
  a138:=Tryz.isAgg239
  z138:=Tryz.sizeOf239
  v138:=Tryz.zeroValue239
  t139:=Tryz.underlying240
  a139:=Tryz.isAgg240
  z139:=Tryz.sizeOf240
  v139:=Tryz.zeroValue240
  g3:=by kernel_rfl
  g4:=by kernel_rfl}
def Tryz.a5i:Go.Shelf.Ren:=⟨fun|162=>130|232=>173|227=>163|234=>174|236=>175|228=>168|271=>201|151=>195|120=>221|197=>194|152=>166|260=>215|137=>86|119=>196|224=>155|225=>154|217=>121|266=>161|n=>n,fun|9=>9|4=>4|3=>3|5=>5|117=>200|116=>199|0=>0|124=>203|21=>21|105=>220|46=>194|119=>156|139=>240|138=>239|n=>n,fun|3=>2|4=>3|n=>n⟩
theorem Tryz.a5j:Go.Proofs.Lays.n162 Tryz.prog Tryz.a5i:={
  mixed:=by kernel_rfl
  f119:=Tryz.func196.trans (congrArg some (by kernel_rfl))
  f120:=Tryz.func221.trans (congrArg some (by kernel_rfl))
  f137:=Tryz.func86.trans (congrArg some (by kernel_rfl))
  f151:=Tryz.func195.trans (congrArg some (by kernel_rfl))
  f152:=Tryz.func166.trans (congrArg some (by kernel_rfl))
  f162:=Tryz.func130.trans (congrArg some (by kernel_rfl))
  f197:=Tryz.func194.trans (congrArg some (by kernel_rfl))
  f217:=Tryz.func121.trans (congrArg some (by kernel_rfl))
  f224:=Tryz.func155.trans (congrArg some (by kernel_rfl))
  f225:=Tryz.func154.trans (congrArg some (by kernel_rfl))
  f227:=Tryz.func163.trans (congrArg some (by kernel_rfl))
  f228:=Tryz.func168.trans (congrArg some (by kernel_rfl))
  f232:=Tryz.func173.trans (congrArg some (by kernel_rfl))
  f234:=Tryz.func174.trans (congrArg some (by kernel_rfl))
  f236:=Tryz.func175.trans (congrArg some (by kernel_rfl))
  f260:=Tryz.func215.trans (congrArg some (by kernel_rfl))
  f266:=Tryz.func161.trans (congrArg some (by kernel_rfl))
  f271:=Tryz.func201.trans (congrArg some (by kernel_rfl))
  t0:=Tryz.underlying0
  a0:=Tryz.isAgg0
  z0:=Tryz.sizeOf0
  v0:=Tryz.zeroValue0
  t3:=Tryz.underlying3
  a3:=Tryz.isAgg3
  z3:=Tryz.sizeOf3
  v3:=Tryz.zeroValue3
  t4:=Tryz.underlying4
  a4:=Tryz.isAgg4
  z4:=Tryz.sizeOf4
  v4:=Tryz.zeroValue4
  t5:=Tryz.underlying5
  a5:=Tryz.isAgg5
  z5:=Tryz.sizeOf5
  v5:=Tryz.zeroValue5
  t9:=Tryz.underlying9
  a9:=Tryz.isAgg9
  z9:=Tryz.sizeOf9
  v9:=Tryz.zeroValue9
  t21:=Tryz.underlying21
  a21:=Tryz.isAgg21
  z21:=Tryz.sizeOf21
  v21:=Tryz.zeroValue21
  t46:=Tryz.underlying194
  a46:=Tryz.isAgg194
  z46:=Tryz.sizeOf194
  v46:=Tryz.zeroValue194
  t105:=Tryz.underlying220
  a105:=Tryz.isAgg220
  z105:=Tryz.sizeOf220
  v105:=Tryz.zeroValue220
  t116:=Tryz.underlying199
  a116:=Tryz.isAgg199
  z116:=Tryz.sizeOf199
  t117:=Tryz.underlying200
  a117:=Tryz.isAgg200
  z117:=Tryz.sizeOf200
  v117:=Tryz.zeroValue200
  t119:=Tryz.underlying156
  a119:=Tryz.isAgg156
  z119:=Tryz.sizeOf156
  t124:=Tryz.underlying203
  a124:=Tryz.isAgg203
  z124:=Tryz.sizeOf203
  v124:=Tryz.zeroValue203
  t138:=Tryz.underlying239
  a138:=Tryz.isAgg239
  z138:=Tryz.sizeOf239
  v138:=Tryz.zeroValue239
  t139:=Tryz.underlying240
  a139:=Tryz.isAgg240
  z139:=Tryz.sizeOf240
  v139:=Tryz.zeroValue240
  g3:=by kernel_rfl
  g4:=by kernel_rfl}
def Tryz.a5k:Go.Shelf.Ren:=⟨fun|137=>86|217=>121|266=>161|n=>n,fun|9=>9|5=>5|3=>3|n=>n,fun|n=>n⟩
theorem Tryz.a5l:Go.Proofs.Lays.n137 Tryz.prog Tryz.a5k:={
  mixed:=by kernel_rfl
  f137:=Tryz.func86.trans (congrArg some (by kernel_rfl))
  f217:=Tryz.func121.trans (congrArg some (by kernel_rfl))
  f266:=Tryz.func161.trans (congrArg some (by kernel_rfl))
  t3:=Tryz.underlying3
  a3:=Tryz.isAgg3
  z3:=Tryz.sizeOf3
  v3:=Tryz.zeroValue3
  t5:=Tryz.underlying5
  a5:=Tryz.isAgg5
  z5:=Tryz.sizeOf5
  v5:=Tryz.zeroValue5
  t9:=Tryz.underlying9
  a9:=Tryz.isAgg9
  z9:=Tryz.sizeOf9
  v9:=Tryz.zeroValue9}
open Go.RowKit in
theorem Tryz.strings_IndexByte(s:ByteArray)(c:Int)(w:World):
    Calls Tryz.prog 86 #[.string s,.int .u8 c] w λe w'=>e=.returned (.int .i64 (Lib.indexByte s.data.toList c.toNat.toUInt8))∧w'=w:=Any.strings_IndexByte Tryz.a5l s c w
def Tryz.a5m:Go.Shelf.Ren:=⟨fun|284=>198|129=>217|317=>216|318=>218|n=>n,fun|53=>168|3=>3|212=>235|0=>0|4=>4|46=>194|5=>5|9=>9|n=>n,fun|17=>1|n=>n⟩
theorem Tryz.a5n:Go.Proofs.LaysM.n284 Tryz.prog Tryz.a5m:={
  mixed:=by kernel_rfl
  f129:=Tryz.func217.trans (congrArg some (by kernel_rfl))
  f284:=Tryz.func198.trans (congrArg some (by kernel_rfl))
  f317:=Tryz.func216.trans (congrArg some (by kernel_rfl))
  f318:=Tryz.func218.trans (congrArg some (by kernel_rfl))
  t0:=Tryz.underlying0
  a0:=Tryz.isAgg0
  z0:=Tryz.sizeOf0
  v0:=Tryz.zeroValue0
  t3:=Tryz.underlying3
  a3:=Tryz.isAgg3
  z3:=Tryz.sizeOf3
  v3:=Tryz.zeroValue3
  t4:=Tryz.underlying4
  a4:=Tryz.isAgg4
  z4:=Tryz.sizeOf4
  v4:=Tryz.zeroValue4
  t5:=Tryz.underlying5
  a5:=Tryz.isAgg5
  z5:=Tryz.sizeOf5
  v5:=Tryz.zeroValue5
  t9:=Tryz.underlying9
  a9:=Tryz.isAgg9
  z9:=Tryz.sizeOf9
  v9:=Tryz.zeroValue9
  t46:=Tryz.underlying194
  a46:=Tryz.isAgg194
  z46:=Tryz.sizeOf194
  v46:=Tryz.zeroValue194
  t53:=Tryz.underlying168
  a53:=Tryz.isAgg168
  z53:=Tryz.sizeOf168
  v53:=Tryz.zeroValue168
  t212:=Tryz.underlying235
  a212:=Tryz.isAgg235
  z212:=Tryz.sizeOf235
  v212:=Tryz.zeroValue235
  g17:=by kernel_rfl
  i0:=by kernel_rfl
  i3:=by kernel_rfl
  i4:=by kernel_rfl
  i5:=by kernel_rfl
  i9:=by kernel_rfl
  i46:=by kernel_rfl
  i53:=by kernel_rfl
  i212:=by kernel_rfl
  m17:=by kernel_rfl}
open Go.Lib in
theorem Tryz.internal_strconv_numDigits(u:Nat)(h1:1≤u)(h2:u<18446744073709551616)(w:World)(DU:Lib.TabIs Tryz.prog w "internal/strconv.uint64pow10" .u64 Lib.pow10Tab):
    Calls Tryz.prog 198 #[.int .u64 u] w λe w'=>e=.returned (.int .i64 (Lib.nDigits u))∧w'=w:=Any.internal_strconv_numDigits Tryz.a5n u h1 h2 w DU
def Tryz.a5o:Go.Shelf.Ren:=⟨fun|285=>199|n=>n,fun|37=>101|53=>168|3=>3|4=>4|51=>80|9=>9|5=>5|0=>0|n=>n,fun|n=>n⟩
theorem Tryz.a5p:Go.Proofs.Lays.n285 Tryz.prog Tryz.a5o:={
  mixed:=by kernel_rfl
  f285:=Tryz.func199.trans (congrArg some (by kernel_rfl))
  t0:=Tryz.underlying0
  a0:=Tryz.isAgg0
  z0:=Tryz.sizeOf0
  v0:=Tryz.zeroValue0
  t3:=Tryz.underlying3
  a3:=Tryz.isAgg3
  z3:=Tryz.sizeOf3
  v3:=Tryz.zeroValue3
  t4:=Tryz.underlying4
  a4:=Tryz.isAgg4
  z4:=Tryz.sizeOf4
  v4:=Tryz.zeroValue4
  t5:=Tryz.underlying5
  a5:=Tryz.isAgg5
  z5:=Tryz.sizeOf5
  v5:=Tryz.zeroValue5
  t9:=Tryz.underlying9
  a9:=Tryz.isAgg9
  z9:=Tryz.sizeOf9
  v9:=Tryz.zeroValue9
  t37:=Tryz.underlying101
  a37:=Tryz.isAgg101
  z37:=Tryz.sizeOf101
  v37:=Tryz.zeroValue101
  t51:=Tryz.underlying80
  a51:=Tryz.isAgg80
  z51:=Tryz.sizeOf80
  v51:=Tryz.zeroValue80
  t53:=Tryz.underlying168
  a53:=Tryz.isAgg168
  z53:=Tryz.sizeOf168
  v53:=Tryz.zeroValue168}
open Go.RowKit Go.Sort Go.Lib in
theorem Tryz.internal_strconv_formatBase10(cq off cap:Nat)(u:Nat)(d:Array UInt8)(w:World)(hH:Holds (λ(b:UInt8)=>Value.int .u8 (b.toNat:Int)) w cq off d)(hu:u<10^d.size)(a5q:u<18446744073709551616)(gk:d.size<4611686018427387904):
    Calls Tryz.prog 199 #[.slice (some ⟨cq,off,none⟩) d.size cap,.int .u64 u] w λe w'=>
      e=.returned (.tuple #[])∧∃(n v':Nat)(dk:Array UInt8),w'=(putRow (λ(b:UInt8)=>Value.int .u8 (b.toNat:Int)) w cq off dk).drewN n∧FmtInv d.size u 0 v' dk:=Any.internal_strconv_formatBase10 Tryz.a5p cq off cap u d w hH hu a5q gk
def Tryz.a5r:Go.Shelf.Ren:=⟨fun|173=>131|246=>176|283=>197|284=>198|285=>199|286=>200|129=>217|317=>216|318=>218|319=>219|320=>220|337=>222|338=>223|n=>n,fun|2=>2|3=>3|9=>9|4=>4|171=>225|0=>0|53=>168|37=>101|5=>5|173=>228|212=>235|51=>80|20=>20|213=>236|46=>194|232=>242|233=>243|n=>n,fun|17=>1|18=>4|19=>5|n=>n⟩
theorem Tryz.a5s:Go.Proofs.LaysM.n173 Tryz.prog Tryz.a5r:={
  mixed:=by kernel_rfl
  f129:=Tryz.func217.trans (congrArg some (by kernel_rfl))
  f173:=Tryz.func131.trans (congrArg some (by kernel_rfl))
  f246:=Tryz.func176.trans (congrArg some (by kernel_rfl))
  f283:=Tryz.func197.trans (congrArg some (by kernel_rfl))
  f284:=Tryz.func198.trans (congrArg some (by kernel_rfl))
  f285:=Tryz.func199.trans (congrArg some (by kernel_rfl))
  f286:=Tryz.func200.trans (congrArg some (by kernel_rfl))
  f317:=Tryz.func216.trans (congrArg some (by kernel_rfl))
  f318:=Tryz.func218.trans (congrArg some (by kernel_rfl))
  f319:=Tryz.func219.trans (congrArg some (by kernel_rfl))
  f320:=Tryz.func220.trans (congrArg some (by kernel_rfl))
  f337:=Tryz.func222.trans (congrArg some (by kernel_rfl))
  f338:=Tryz.func223.trans (congrArg some (by kernel_rfl))
  t0:=Tryz.underlying0
  a0:=Tryz.isAgg0
  z0:=Tryz.sizeOf0
  v0:=Tryz.zeroValue0
  t2:=Tryz.underlying2
  a2:=Tryz.isAgg2
  z2:=Tryz.sizeOf2
  v2:=Tryz.zeroValue2
  t3:=Tryz.underlying3
  a3:=Tryz.isAgg3
  z3:=Tryz.sizeOf3
  v3:=Tryz.zeroValue3
  t4:=Tryz.underlying4
  a4:=Tryz.isAgg4
  z4:=Tryz.sizeOf4
  v4:=Tryz.zeroValue4
  t5:=Tryz.underlying5
  a5:=Tryz.isAgg5
  z5:=Tryz.sizeOf5
  v5:=Tryz.zeroValue5
  t9:=Tryz.underlying9
  a9:=Tryz.isAgg9
  z9:=Tryz.sizeOf9
  v9:=Tryz.zeroValue9
  t20:=Tryz.underlying20
  a20:=Tryz.isAgg20
  z20:=Tryz.sizeOf20
  v20:=Tryz.zeroValue20
  t37:=Tryz.underlying101
  a37:=Tryz.isAgg101
  z37:=Tryz.sizeOf101
  v37:=Tryz.zeroValue101
  t46:=Tryz.underlying194
  a46:=Tryz.isAgg194
  z46:=Tryz.sizeOf194
  v46:=Tryz.zeroValue194
  t51:=Tryz.underlying80
  a51:=Tryz.isAgg80
  z51:=Tryz.sizeOf80
  v51:=Tryz.zeroValue80
  t53:=Tryz.underlying168
  a53:=Tryz.isAgg168
  z53:=Tryz.sizeOf168
  v53:=Tryz.zeroValue168
  t171:=Tryz.underlying225
  a171:=Tryz.isAgg225
  z171:=Tryz.sizeOf225
  v171:=Tryz.zeroValue225
  t173:=Tryz.underlying228
  a173:=Tryz.isAgg228
  z173:=Tryz.sizeOf228
  v173:=Tryz.zeroValue228
  t212:=Tryz.underlying235
  a212:=Tryz.isAgg235
  z212:=Tryz.sizeOf235
  v212:=Tryz.zeroValue235
  t213:=Tryz.underlying236
  a213:=Tryz.isAgg236
  z213:=Tryz.sizeOf236
  t232:=Tryz.underlying242
  a232:=Tryz.isAgg242
  z232:=Tryz.sizeOf242
  v232:=Tryz.zeroValue242
  t233:=Tryz.underlying243
  a233:=Tryz.isAgg243
  z233:=Tryz.sizeOf243
  v233:=Tryz.zeroValue243
  g17:=by kernel_rfl
  g18:=by kernel_rfl
  g19:=by kernel_rfl
  i0:=by kernel_rfl
  i2:=by kernel_rfl
  i3:=by kernel_rfl
  i4:=by kernel_rfl
  i5:=by kernel_rfl
  i9:=by kernel_rfl
  i20:=by kernel_rfl
  i37:=by kernel_rfl
  i46:=by kernel_rfl
  i51:=by kernel_rfl
  i53:=by kernel_rfl
  i171:=by kernel_rfl
  i173:=by kernel_rfl
  i212:=by kernel_rfl
  i232:=by kernel_rfl
  i233:=by kernel_rfl
  m17:=by kernel_rfl
  m18:=by kernel_rfl
  m19:=by kernel_rfl}
open Go.RowKit Go.Sort Go.Lib in
theorem Tryz.strconv_FormatInt_10(n:Int)(h0:-9223372036854775808≤n)(h1:n≤9223372036854775807)(w:World)(DU:Lib.TabIs Tryz.prog w "internal/strconv.uint64pow10" .u64 Lib.pow10Tab):
    Calls Tryz.prog 131 #[.int .i64 n,.int .i64 10] w λe w'=>e=.returned (.string ⟨(Lib.itoa n).toArray⟩)∧∃k os,w'=grow (w.drewN k) os:=Any.strconv_FormatInt_10 Tryz.a5s n h0 h1 w DU
def Tryz.a5t:Go.Shelf.Ren:=⟨fun|217=>121|266=>161|n=>n,fun|9=>9|5=>5|3=>3|n=>n,fun|n=>n⟩
theorem Tryz.a5u:Go.Proofs.Lays.n217 Tryz.prog Tryz.a5t:={
  mixed:=by kernel_rfl
  f217:=Tryz.func121.trans (congrArg some (by kernel_rfl))
  f266:=Tryz.func161.trans (congrArg some (by kernel_rfl))
  t3:=Tryz.underlying3
  a3:=Tryz.isAgg3
  z3:=Tryz.sizeOf3
  v3:=Tryz.zeroValue3
  t5:=Tryz.underlying5
  a5:=Tryz.isAgg5
  z5:=Tryz.sizeOf5
  v5:=Tryz.zeroValue5
  t9:=Tryz.underlying9
  a9:=Tryz.isAgg9
  z9:=Tryz.sizeOf9
  v9:=Tryz.zeroValue9}
open Go.RowKit Go.Lib in
theorem Tryz.stringslite_IndexByte(s:ByteArray)(c:Int)(w:World):
    Calls Tryz.prog 121 #[.string s,.int .u8 c] w λe w'=>e=.returned (.int .i64 (Lib.indexByte s.data.toList c.toNat.toUInt8))∧w'=w:=Any.stringslite_IndexByte Tryz.a5u s c w
def Tryz.a5v:Go.Shelf.Ren:=⟨fun|219=>116|217=>121|225=>154|224=>155|267=>156|266=>161|314=>192|n=>n,fun|9=>9|3=>3|4=>4|5=>5|46=>194|146=>218|51=>80|n=>n,fun|1=>0|n=>n⟩
theorem Tryz.a5w:Go.Proofs.Lays.n219 Tryz.prog Tryz.a5v:={
  mixed:=by kernel_rfl
  f217:=Tryz.func121.trans (congrArg some (by kernel_rfl))
  f219:=Tryz.func116.trans (congrArg some (by kernel_rfl))
  f224:=Tryz.func155.trans (congrArg some (by kernel_rfl))
  f225:=Tryz.func154.trans (congrArg some (by kernel_rfl))
  f266:=Tryz.func161.trans (congrArg some (by kernel_rfl))
  f267:=Tryz.func156.trans (congrArg some (by kernel_rfl))
  f314:=Tryz.func192.trans (congrArg some (by kernel_rfl))
  t3:=Tryz.underlying3
  a3:=Tryz.isAgg3
  z3:=Tryz.sizeOf3
  v3:=Tryz.zeroValue3
  t4:=Tryz.underlying4
  a4:=Tryz.isAgg4
  z4:=Tryz.sizeOf4
  v4:=Tryz.zeroValue4
  t5:=Tryz.underlying5
  a5:=Tryz.isAgg5
  z5:=Tryz.sizeOf5
  v5:=Tryz.zeroValue5
  t9:=Tryz.underlying9
  a9:=Tryz.isAgg9
  z9:=Tryz.sizeOf9
  v9:=Tryz.zeroValue9
  t46:=Tryz.underlying194
  a46:=Tryz.isAgg194
  z46:=Tryz.sizeOf194
  v46:=Tryz.zeroValue194
  t51:=Tryz.underlying80
  a51:=Tryz.isAgg80
  z51:=Tryz.sizeOf80
  v51:=Tryz.zeroValue80
  t146:=Tryz.underlying218
  a146:=Tryz.isAgg218
  z146:=Tryz.sizeOf218
  v146:=Tryz.zeroValue218
  g1:=by kernel_rfl}
open Go.RowKit Go.Lib in
theorem Tryz.stringslite_Index(s sub:ByteArray)(m:Int)(w:World)(hs:s.size<4294967281)(hm:w.cell? ⟨0,0,none⟩=some (.int .i64 m)):
    Calls Tryz.prog 116 #[.string s,.string sub] w λe w'=>e=.returned (.int .i64 (Lib.index s.data.toList sub.data.toList))∧w'=w:=Any.stringslite_Index Tryz.a5w s sub m w hs hm
def Tryz.a5x:Go.Shelf.Ren:=⟨fun|143=>74|219=>116|217=>121|225=>154|224=>155|267=>156|266=>161|314=>192|n=>n,fun|9=>9|3=>3|4=>4|5=>5|46=>194|146=>218|51=>80|n=>n,fun|1=>0|n=>n⟩
theorem Tryz.a5y:Go.Proofs.Lays.n143 Tryz.prog Tryz.a5x:={
  mixed:=by kernel_rfl
  f143:=Tryz.func74.trans (congrArg some (by kernel_rfl))
  f217:=Tryz.func121.trans (congrArg some (by kernel_rfl))
  f219:=Tryz.func116.trans (congrArg some (by kernel_rfl))
  f224:=Tryz.func155.trans (congrArg some (by kernel_rfl))
  f225:=Tryz.func154.trans (congrArg some (by kernel_rfl))
  f266:=Tryz.func161.trans (congrArg some (by kernel_rfl))
  f267:=Tryz.func156.trans (congrArg some (by kernel_rfl))
  f314:=Tryz.func192.trans (congrArg some (by kernel_rfl))
  t3:=Tryz.underlying3
  a3:=Tryz.isAgg3
  z3:=Tryz.sizeOf3
  v3:=Tryz.zeroValue3
  t4:=Tryz.underlying4
  a4:=Tryz.isAgg4
  z4:=Tryz.sizeOf4
  v4:=Tryz.zeroValue4
  t5:=Tryz.underlying5
  a5:=Tryz.isAgg5
  z5:=Tryz.sizeOf5
  v5:=Tryz.zeroValue5
  t9:=Tryz.underlying9
  a9:=Tryz.isAgg9
  z9:=Tryz.sizeOf9
  v9:=Tryz.zeroValue9
  t46:=Tryz.underlying194
  a46:=Tryz.isAgg194
  z46:=Tryz.sizeOf194
  v46:=Tryz.zeroValue194
  t51:=Tryz.underlying80
  a51:=Tryz.isAgg80
  z51:=Tryz.sizeOf80
  v51:=Tryz.zeroValue80
  t146:=Tryz.underlying218
  a146:=Tryz.isAgg218
  z146:=Tryz.sizeOf218
  v146:=Tryz.zeroValue218
  g1:=by kernel_rfl}
open Go.RowKit Go.Lib in
theorem Tryz.strings_Index(s sub:ByteArray)(m:Int)(w:World)(hs:s.size<4294967281)(hm:w.cell? ⟨0,0,none⟩=some (.int .i64 m)):
    Calls Tryz.prog 74 #[.string s,.string sub] w λe w'=>e=.returned (.int .i64 (Lib.index s.data.toList sub.data.toList))∧w'=w:=Any.strings_Index Tryz.a5y s sub m w hs hm
def Tryz.a5z:Go.Shelf.Ren:=⟨fun|144=>91|143=>74|219=>116|217=>121|225=>154|224=>155|267=>156|266=>161|314=>192|n=>n,fun|9=>9|4=>4|3=>3|5=>5|46=>194|146=>218|51=>80|n=>n,fun|1=>0|n=>n⟩
theorem Tryz.a5A:Go.Proofs.Lays.n144 Tryz.prog Tryz.a5z:={
  mixed:=by kernel_rfl
  f143:=Tryz.func74.trans (congrArg some (by kernel_rfl))
  f144:=Tryz.func91.trans (congrArg some (by kernel_rfl))
  f217:=Tryz.func121.trans (congrArg some (by kernel_rfl))
  f219:=Tryz.func116.trans (congrArg some (by kernel_rfl))
  f224:=Tryz.func155.trans (congrArg some (by kernel_rfl))
  f225:=Tryz.func154.trans (congrArg some (by kernel_rfl))
  f266:=Tryz.func161.trans (congrArg some (by kernel_rfl))
  f267:=Tryz.func156.trans (congrArg some (by kernel_rfl))
  f314:=Tryz.func192.trans (congrArg some (by kernel_rfl))
  t3:=Tryz.underlying3
  a3:=Tryz.isAgg3
  z3:=Tryz.sizeOf3
  v3:=Tryz.zeroValue3
  t4:=Tryz.underlying4
  a4:=Tryz.isAgg4
  z4:=Tryz.sizeOf4
  v4:=Tryz.zeroValue4
  t5:=Tryz.underlying5
  a5:=Tryz.isAgg5
  z5:=Tryz.sizeOf5
  v5:=Tryz.zeroValue5
  t9:=Tryz.underlying9
  a9:=Tryz.isAgg9
  z9:=Tryz.sizeOf9
  v9:=Tryz.zeroValue9
  t46:=Tryz.underlying194
  a46:=Tryz.isAgg194
  z46:=Tryz.sizeOf194
  v46:=Tryz.zeroValue194
  t51:=Tryz.underlying80
  a51:=Tryz.isAgg80
  z51:=Tryz.sizeOf80
  v51:=Tryz.zeroValue80
  t146:=Tryz.underlying218
  a146:=Tryz.isAgg218
  z146:=Tryz.sizeOf218
  v146:=Tryz.zeroValue218
  g1:=by kernel_rfl}
open Go.RowKit Go.Lib in
theorem Tryz.strings_Contains(s sub:ByteArray)(m:Int)(w:World)(hs:s.size<4294967281)(hm:w.cell? ⟨0,0,none⟩=some (.int .i64 m)):
    Calls Tryz.prog 91 #[.string s,.string sub] w λe w'=>e=.returned (.bool (Lib.contains s.data.toList sub.data.toList))∧w'=w:=Any.strings_Contains Tryz.a5A s sub m w hs hm
def Tryz.a5B:Go.Shelf.Ren:=⟨fun|220=>169|219=>116|217=>121|225=>154|224=>155|267=>156|266=>161|314=>192|n=>n,fun|9=>9|4=>4|3=>3|5=>5|46=>194|146=>218|51=>80|n=>n,fun|1=>0|n=>n⟩
theorem Tryz.a5C:Go.Proofs.Lays.n220 Tryz.prog Tryz.a5B:={
  mixed:=by kernel_rfl
  f217:=Tryz.func121.trans (congrArg some (by kernel_rfl))
  f219:=Tryz.func116.trans (congrArg some (by kernel_rfl))
  f220:=Tryz.func169.trans (congrArg some (by kernel_rfl))
  f224:=Tryz.func155.trans (congrArg some (by kernel_rfl))
  f225:=Tryz.func154.trans (congrArg some (by kernel_rfl))
  f266:=Tryz.func161.trans (congrArg some (by kernel_rfl))
  f267:=Tryz.func156.trans (congrArg some (by kernel_rfl))
  f314:=Tryz.func192.trans (congrArg some (by kernel_rfl))
  t3:=Tryz.underlying3
  a3:=Tryz.isAgg3
  z3:=Tryz.sizeOf3
  v3:=Tryz.zeroValue3
  t4:=Tryz.underlying4
  a4:=Tryz.isAgg4
  z4:=Tryz.sizeOf4
  v4:=Tryz.zeroValue4
  t5:=Tryz.underlying5
  a5:=Tryz.isAgg5
  z5:=Tryz.sizeOf5
  v5:=Tryz.zeroValue5
  t9:=Tryz.underlying9
  a9:=Tryz.isAgg9
  z9:=Tryz.sizeOf9
  v9:=Tryz.zeroValue9
  t46:=Tryz.underlying194
  a46:=Tryz.isAgg194
  z46:=Tryz.sizeOf194
  v46:=Tryz.zeroValue194
  t51:=Tryz.underlying80
  a51:=Tryz.isAgg80
  z51:=Tryz.sizeOf80
  v51:=Tryz.zeroValue80
  t146:=Tryz.underlying218
  a146:=Tryz.isAgg218
  z146:=Tryz.sizeOf218
  v146:=Tryz.zeroValue218
  g1:=by kernel_rfl}
open Go.RowKit Go.Lib in
theorem Tryz.stringslite_Cut(s sep:ByteArray)(m:Int)(w:World)(hs:s.size<4294967281)(hm:w.cell? ⟨0,0,none⟩=some (.int .i64 m)):
    Calls Tryz.prog 169 #[.string s,.string sep] w λe w'=>e=.returned (.tuple #[.string ⟨(Lib.cut s.data.toList sep.data.toList).1.toArray⟩,.string ⟨(Lib.cut s.data.toList sep.data.toList).2.1.toArray⟩,.bool (Lib.cut s.data.toList sep.data.toList).2.2])∧∃n,w'=w.drewN n:=Any.stringslite_Cut Tryz.a5C s sep m w hs hm
def Tryz.a5D:Go.Shelf.Ren:=⟨fun|145=>124|220=>169|219=>116|217=>121|225=>154|224=>155|267=>156|266=>161|314=>192|n=>n,fun|9=>9|4=>4|59=>165|3=>3|5=>5|46=>194|146=>218|51=>80|n=>n,fun|1=>0|n=>n⟩
theorem Tryz.a5E:Go.Proofs.Lays.n145 Tryz.prog Tryz.a5D:={
  mixed:=by kernel_rfl
  f145:=Tryz.func124.trans (congrArg some (by kernel_rfl))
  f217:=Tryz.func121.trans (congrArg some (by kernel_rfl))
  f219:=Tryz.func116.trans (congrArg some (by kernel_rfl))
  f220:=Tryz.func169.trans (congrArg some (by kernel_rfl))
  f224:=Tryz.func155.trans (congrArg some (by kernel_rfl))
  f225:=Tryz.func154.trans (congrArg some (by kernel_rfl))
  f266:=Tryz.func161.trans (congrArg some (by kernel_rfl))
  f267:=Tryz.func156.trans (congrArg some (by kernel_rfl))
  f314:=Tryz.func192.trans (congrArg some (by kernel_rfl))
  t3:=Tryz.underlying3
  a3:=Tryz.isAgg3
  z3:=Tryz.sizeOf3
  v3:=Tryz.zeroValue3
  t4:=Tryz.underlying4
  a4:=Tryz.isAgg4
  z4:=Tryz.sizeOf4
  v4:=Tryz.zeroValue4
  t5:=Tryz.underlying5
  a5:=Tryz.isAgg5
  z5:=Tryz.sizeOf5
  v5:=Tryz.zeroValue5
  t9:=Tryz.underlying9
  a9:=Tryz.isAgg9
  z9:=Tryz.sizeOf9
  v9:=Tryz.zeroValue9
  t46:=Tryz.underlying194
  a46:=Tryz.isAgg194
  z46:=Tryz.sizeOf194
  v46:=Tryz.zeroValue194
  t51:=Tryz.underlying80
  a51:=Tryz.isAgg80
  z51:=Tryz.sizeOf80
  v51:=Tryz.zeroValue80
  t59:=Tryz.underlying165
  a59:=Tryz.isAgg165
  z59:=Tryz.sizeOf165
  v59:=Tryz.zeroValue165
  t146:=Tryz.underlying218
  a146:=Tryz.isAgg218
  z146:=Tryz.sizeOf218
  v146:=Tryz.zeroValue218
  g1:=by kernel_rfl}
open Go.RowKit Go.Lib in
theorem Tryz.strings_Cut(s sep:ByteArray)(m:Int)(w:World)(hs:s.size<4294967281)(hm:w.cell? ⟨0,0,none⟩=some (.int .i64 m)):
    Calls Tryz.prog 124 #[.string s,.string sep] w λe w'=>e=.returned (.tuple #[.string ⟨(Lib.cut s.data.toList sep.data.toList).1.toArray⟩,.string ⟨(Lib.cut s.data.toList sep.data.toList).2.1.toArray⟩,.bool (Lib.cut s.data.toList sep.data.toList).2.2])∧∃n,w'=w.drewN n:=Any.strings_Cut Tryz.a5E s sep m w hs hm
def Tryz.a5F:Go.Shelf.Ren:=⟨fun|143=>74|219=>116|217=>121|225=>154|224=>155|267=>156|266=>161|314=>192|n=>n,fun|9=>9|3=>3|4=>4|5=>5|46=>194|146=>218|51=>80|n=>n,fun|1=>0|n=>n⟩
theorem Tryz.a5G:Go.Proofs.LaysM.n143 Tryz.prog Tryz.a5F:={
  mixed:=by kernel_rfl
  f143:=Tryz.func74.trans (congrArg some (by kernel_rfl))
  f217:=Tryz.func121.trans (congrArg some (by kernel_rfl))
  f219:=Tryz.func116.trans (congrArg some (by kernel_rfl))
  f224:=Tryz.func155.trans (congrArg some (by kernel_rfl))
  f225:=Tryz.func154.trans (congrArg some (by kernel_rfl))
  f266:=Tryz.func161.trans (congrArg some (by kernel_rfl))
  f267:=Tryz.func156.trans (congrArg some (by kernel_rfl))
  f314:=Tryz.func192.trans (congrArg some (by kernel_rfl))
  t3:=Tryz.underlying3
  a3:=Tryz.isAgg3
  z3:=Tryz.sizeOf3
  v3:=Tryz.zeroValue3
  t4:=Tryz.underlying4
  a4:=Tryz.isAgg4
  z4:=Tryz.sizeOf4
  v4:=Tryz.zeroValue4
  t5:=Tryz.underlying5
  a5:=Tryz.isAgg5
  z5:=Tryz.sizeOf5
  v5:=Tryz.zeroValue5
  t9:=Tryz.underlying9
  a9:=Tryz.isAgg9
  z9:=Tryz.sizeOf9
  v9:=Tryz.zeroValue9
  t46:=Tryz.underlying194
  a46:=Tryz.isAgg194
  z46:=Tryz.sizeOf194
  v46:=Tryz.zeroValue194
  t51:=Tryz.underlying80
  a51:=Tryz.isAgg80
  z51:=Tryz.sizeOf80
  v51:=Tryz.zeroValue80
  t146:=Tryz.underlying218
  a146:=Tryz.isAgg218
  z146:=Tryz.sizeOf218
  v146:=Tryz.zeroValue218
  g1:=by kernel_rfl
  i3:=by kernel_rfl
  i4:=by kernel_rfl
  i5:=by kernel_rfl
  i9:=by kernel_rfl
  i46:=by kernel_rfl
  i51:=by kernel_rfl
  i146:=by kernel_rfl
  m1:=by kernel_rfl
  s1_3:=λw h=>Go.Proofs.cell_of_shapedOpen_int (zero:=#[.int .i64 0]) (t:=3) h (of_decide_eq_true (by kernel_rfl)) (by kernel_rfl) rfl (by kernel_rfl) (by kernel_rfl) Tryz.underlying3}
def Tryz.a5H:Go.Shelf.Ren:=⟨fun|206=>98|n=>n,fun|9=>9|4=>4|3=>3|n=>n,fun|n=>n⟩
theorem Tryz.a5I:Go.Proofs.Lays.n206 Tryz.prog Tryz.a5H:={
  mixed:=by kernel_rfl
  f206:=Tryz.func98.trans (congrArg some (by kernel_rfl))
  t3:=Tryz.underlying3
  a3:=Tryz.isAgg3
  z3:=Tryz.sizeOf3
  v3:=Tryz.zeroValue3
  t4:=Tryz.underlying4
  a4:=Tryz.isAgg4
  z4:=Tryz.sizeOf4
  v4:=Tryz.zeroValue4
  t9:=Tryz.underlying9
  a9:=Tryz.isAgg9
  z9:=Tryz.sizeOf9
  v9:=Tryz.zeroValue9}
open Go.RowKit Go.Lib in
theorem Tryz.stringslite_HasPrefix(s p:ByteArray)(w:World):
    Calls Tryz.prog 98 #[.string s,.string p] w λe w'=>e=.returned (.bool (Lib.hasPrefix s.data.toList p.data.toList))∧w'=w:=Any.stringslite_HasPrefix Tryz.a5I s p w
def Tryz.a5J:Go.Shelf.Ren:=⟨fun|99=>53|206=>98|n=>n,fun|9=>9|4=>4|3=>3|n=>n,fun|n=>n⟩
theorem Tryz.a5K:Go.Proofs.Lays.n99 Tryz.prog Tryz.a5J:={
  mixed:=by kernel_rfl
  f99:=Tryz.func53.trans (congrArg some (by kernel_rfl))
  f206:=Tryz.func98.trans (congrArg some (by kernel_rfl))
  t3:=Tryz.underlying3
  a3:=Tryz.isAgg3
  z3:=Tryz.sizeOf3
  v3:=Tryz.zeroValue3
  t4:=Tryz.underlying4
  a4:=Tryz.isAgg4
  z4:=Tryz.sizeOf4
  v4:=Tryz.zeroValue4
  t9:=Tryz.underlying9
  a9:=Tryz.isAgg9
  z9:=Tryz.sizeOf9
  v9:=Tryz.zeroValue9}
open Go.RowKit Go.Lib in
theorem Tryz.strings_HasPrefix(s p:ByteArray)(w:World):
    Calls Tryz.prog 53 #[.string s,.string p] w λe w'=>e=.returned (.bool (Lib.hasPrefix s.data.toList p.data.toList))∧w'=w:=Any.strings_HasPrefix Tryz.a5K s p w
def Tryz.a5L:Go.Shelf.Ren:=⟨fun|208=>170|206=>98|n=>n,fun|9=>9|4=>4|3=>3|n=>n,fun|n=>n⟩
theorem Tryz.a5M:Go.Proofs.Lays.n208 Tryz.prog Tryz.a5L:={
  mixed:=by kernel_rfl
  f206:=Tryz.func98.trans (congrArg some (by kernel_rfl))
  f208:=Tryz.func170.trans (congrArg some (by kernel_rfl))
  t3:=Tryz.underlying3
  a3:=Tryz.isAgg3
  z3:=Tryz.sizeOf3
  v3:=Tryz.zeroValue3
  t4:=Tryz.underlying4
  a4:=Tryz.isAgg4
  z4:=Tryz.sizeOf4
  v4:=Tryz.zeroValue4
  t9:=Tryz.underlying9
  a9:=Tryz.isAgg9
  z9:=Tryz.sizeOf9
  v9:=Tryz.zeroValue9}
open Go.RowKit Go.Lib in
theorem Tryz.stringslite_TrimPrefix(s p:ByteArray)(w:World):
    Calls Tryz.prog 170 #[.string s,.string p] w λe w'=>e=.returned (.string ⟨(Lib.trimPrefix s.data.toList p.data.toList).toArray⟩)∧w'=w:=Any.stringslite_TrimPrefix Tryz.a5M s p w
def Tryz.a5N:Go.Shelf.Ren:=⟨fun|101=>125|208=>170|206=>98|n=>n,fun|9=>9|4=>4|3=>3|n=>n,fun|n=>n⟩
theorem Tryz.a5O:Go.Proofs.Lays.n101 Tryz.prog Tryz.a5N:={
  mixed:=by kernel_rfl
  f101:=Tryz.func125.trans (congrArg some (by kernel_rfl))
  f206:=Tryz.func98.trans (congrArg some (by kernel_rfl))
  f208:=Tryz.func170.trans (congrArg some (by kernel_rfl))
  t3:=Tryz.underlying3
  a3:=Tryz.isAgg3
  z3:=Tryz.sizeOf3
  v3:=Tryz.zeroValue3
  t4:=Tryz.underlying4
  a4:=Tryz.isAgg4
  z4:=Tryz.sizeOf4
  v4:=Tryz.zeroValue4
  t9:=Tryz.underlying9
  a9:=Tryz.isAgg9
  z9:=Tryz.sizeOf9
  v9:=Tryz.zeroValue9}
open Go.RowKit Go.Lib in
theorem Tryz.strings_TrimPrefix(s p:ByteArray)(w:World):
    Calls Tryz.prog 125 #[.string s,.string p] w λe w'=>e=.returned (.string ⟨(Lib.trimPrefix s.data.toList p.data.toList).toArray⟩)∧w'=w:=Any.strings_TrimPrefix Tryz.a5O s p w
def Tryz.a5P:Go.Shelf.Ren:=⟨fun|153=>123|152=>166|226=>167|227=>163|228=>168|137=>86|119=>196|224=>155|225=>154|217=>121|266=>161|n=>n,fun|9=>9|3=>3|4=>4|5=>5|21=>21|117=>200|116=>199|0=>0|46=>194|124=>203|n=>n,fun|n=>n⟩
theorem Tryz.Xt:Go.Proofs.Lays.n153 Tryz.prog Tryz.a5P:={
  mixed:=by kernel_rfl
  f119:=Tryz.func196.trans (congrArg some (by kernel_rfl))
  f137:=Tryz.func86.trans (congrArg some (by kernel_rfl))
  f152:=Tryz.func166.trans (congrArg some (by kernel_rfl))
  f153:=Tryz.func123.trans (congrArg some (by kernel_rfl))
  f217:=Tryz.func121.trans (congrArg some (by kernel_rfl))
  f224:=Tryz.func155.trans (congrArg some (by kernel_rfl))
  f225:=Tryz.func154.trans (congrArg some (by kernel_rfl))
  f226:=Tryz.func167.trans (congrArg some (by kernel_rfl))
  f227:=Tryz.func163.trans (congrArg some (by kernel_rfl))
  f228:=Tryz.func168.trans (congrArg some (by kernel_rfl))
  f266:=Tryz.func161.trans (congrArg some (by kernel_rfl))
  t0:=Tryz.underlying0
  a0:=Tryz.isAgg0
  z0:=Tryz.sizeOf0
  v0:=Tryz.zeroValue0
  t3:=Tryz.underlying3
  a3:=Tryz.isAgg3
  z3:=Tryz.sizeOf3
  v3:=Tryz.zeroValue3
  t4:=Tryz.underlying4
  a4:=Tryz.isAgg4
  z4:=Tryz.sizeOf4
  v4:=Tryz.zeroValue4
  t5:=Tryz.underlying5
  a5:=Tryz.isAgg5
  z5:=Tryz.sizeOf5
  v5:=Tryz.zeroValue5
  t9:=Tryz.underlying9
  a9:=Tryz.isAgg9
  z9:=Tryz.sizeOf9
  v9:=Tryz.zeroValue9
  t21:=Tryz.underlying21
  a21:=Tryz.isAgg21
  z21:=Tryz.sizeOf21
  v21:=Tryz.zeroValue21
  t46:=Tryz.underlying194
  a46:=Tryz.isAgg194
  z46:=Tryz.sizeOf194
  v46:=Tryz.zeroValue194
  t116:=Tryz.underlying199
  a116:=Tryz.isAgg199
  z116:=Tryz.sizeOf199
  t117:=Tryz.underlying200
  a117:=Tryz.isAgg200
  z117:=Tryz.sizeOf200
  v117:=Tryz.zeroValue200
  t124:=Tryz.underlying203
  a124:=Tryz.isAgg203
  z124:=Tryz.sizeOf203
  v124:=Tryz.zeroValue203}
open Go.RowKit Go.Lib in
theorem Tryz.strings_IndexAny_laid(s chars:ByteArray)(w:World)(hs:s.size<4294967281)(lr:chars.size<4294967281)(has:∀(j:Nat) b,s.data.toList[j]?=some b→b.toNat<128)(PT:∀(j:Nat) b,chars.data.toList[j]?=some b→b.toNat<128):
    Calls Tryz.prog 123 #[.string s,.string chars] w λe w'=>e=.returned (.int .i64 (Lib.indexAny s.data.toList chars.data.toList))∧Below w.heap.size w w':=Any.strings_IndexAny_laid Tryz.Xt (by kernel_rfl) s chars w hs lr has PT
end Go.Proofs

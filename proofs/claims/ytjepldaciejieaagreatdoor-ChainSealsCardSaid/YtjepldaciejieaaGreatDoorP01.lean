/-
  ChainSeals: the proof, part 2 of 15.
-/
import Derived.Test.YtjepldaciejieaaGreatDoorP00
import Derived.Shelf.Strings.Builder1
import Derived.Shelf.Strings.Builder2
import Derived.Shelf.Strings.OnBuilder
import Derived.Shelf.Strings.Trim
import Derived.Shelf.Small.Utf8
import Derived.Shelf.Small.Bits
import Derived.Shelf.Small.Strs
import Derived.Shelf.Small.Wraps
import Derived.Shelf.Strings.BuilderF
import Derived.Shelf.Strings.BuilderK
import Derived.Shelf.Strings.BuilderRune
import Derived.Shelf.Strings.Builder2Cap
import Derived.Shelf.Strconv.Atoi
import Derived.Shelf.Strconv.Itoa0
import Derived.Shelf.Strconv.Itoa1
import Derived.Shelf.LaysM
import Derived.Shelf.Strconv.Itoa2
import Derived.Shelf.Strconv.Itoa3
import Derived.Shelf.Strconv.AtoiErrFast
import Derived.Shelf.Strconv.ParseIntEmpty
import Derived.Shelf.Strconv.AtoiFail
import Derived.Shelf.Strconv.Clone
import Derived.Shelf.Strconv.SyntaxError
import Derived.Shelf.LaysC
import Derived.Shelf.Strconv.ToError
import Derived.Shelf.Strconv.Lower
import Derived.Shelf.Strconv.ParseUint10
import Derived.Shelf.Strconv.ParseUint10Empty
import Derived.Shelf.Strconv.ParseUint10Any
import Derived.Shelf.Strconv.ParseInt10
import Derived.Shelf.Strconv.AtoiLong
import Derived.Shelf.Strconv.AtoiInnerAll
import Derived.Shelf.Strconv.RangeError
import Derived.Shelf.Strconv.ToErrorRange
import Derived.Shelf.Strconv.AtoiAll
import Derived.Shelf.Strconv.ErrVarAll
import Derived.Shelf.Strconv.ParseUintEmpty
import Derived.Shelf.Strconv.ParseUint10b64
import Derived.Shelf.Strconv.ParseUint10b32
import Derived.Shelf.Strconv.ParseUint10b16
import Derived.Shelf.Strconv.ParseUint10b8
import Derived.Shelf.Strings.Search1
import Derived.Shelf.Sort.Plain
import Derived.Shelf.Strings.Prefix
import Derived.Shelf.Unicode.Latin
import Derived.Shelf.Unicode.Decode
import Derived.Shelf.Strings.Runes
import Derived.Shelf.Strings.IndexAny
import Derived.Shelf.Strings.AsciiSet
import Derived.Shelf.Strings.IndexAnyAll
import Derived.Shelf.Bits.Mul64
import Derived.Shelf.Strings.Repeat
import Derived.Shelf.Unicode.DecodeSlow
import Derived.Shelf.Unicode.DecodeAny
import Derived.Shelf.Unicode.DecodeLast
import Derived.Shelf.Unicode.CaseLookup
import Derived.Shelf.Unicode.CaseConvert
import Derived.Shelf.Unicode.CaseTo
import Derived.Shelf.Unicode.CaseLaid
import Derived.Shelf.Strings.MapAny
import Derived.Shelf.Strings.CaseAny
import Derived.Shelf.Slices.Turned
import Derived.Ground.Names2Prog
import Derived.Shelf.Slices.ReverseS
import Derived.Shelf.Slices.Clone
import Derived.Shelf.Slices.SearchI
import Derived.Shelf.Slices.Cells
import Derived.Shelf.Slices.In.SortNone
import Derived.Ground.SlgnProg
import Derived.Shelf.SlicesE.Reverse
import Derived.Shelf.SlicesE.Clone
import Derived.Test.YtjepldaciejieaaGreatDoorProg
set_option linter.unusedSimpArgs false
set_option linter.unusedVariables false
set_option maxHeartbeats 40000000
set_option maxRecDepth 100000
namespace Go.Proofs
section
open Go.Proofs.Tryz Go.Shelf
def Tryz.lays169_ren:Go.Shelf.Ren:=⟨fun|169=>60|n=>n,fun|70=>121|9=>9|0=>0|72=>124|37=>122|127=>180|3=>3|5=>5|n=>n,fun|n=>n⟩
theorem lays169:Go.Proofs.Lays.n169 prog Tryz.lays169_ren:={
 mixed:=by kernel_rfl
 f169:=func60.trans (congrArg some (by kernel_rfl))
 t0:=underlying0
 a0:=isAgg0
 z0:=sizeOf0
 v0:=zeroValue0
 t3:=underlying3
 a3:=isAgg3
 z3:=sizeOf3
 v3:=zeroValue3
 t9:=underlying9
 a9:=isAgg9
 z9:=sizeOf9
 v9:=zeroValue9
 t37:=underlying122
 a37:=isAgg122
 z37:=sizeOf122
 v37:=zeroValue122
 t70:=underlying121
 a70:=isAgg121
 z70:=sizeOf121
 v70:=zeroValue121
 t72:=underlying124
 a72:=isAgg124
 z72:=sizeOf124
 v72:=zeroValue124
 t127:=underlying180
 a127:=isAgg180
 z127:=sizeOf180
 v127:=zeroValue180 }
theorem Tryz.Builder_Extra_169:Builder.Extra prog Tryz.lays169_ren:={
 sizeBuilder:=by kernel_rfl
 liesBuilder:=by kernel_rfl
 t5:=underlying5
 a5:=isAgg5
 z5:=sizeOf5
 v5:=zeroValue5
 infoByte:=by kernel_rfl
 cellsByte:=by kernel_rfl
 sizeByte:=by kernel_rfl
 neB5:=by decide }
open Go.RowKit in
theorem Tryz.Builder_String_any (B b:Nat) (l:List UInt8) (w:World) (h:Lib.IsBuilder 124 5 B b (Lib.byteCells l) w) (hBw:B≤w.heap.size) :
  Calls prog 60 #[.pointer (some ⟨b,0,none⟩)] w fun e w'=>e=.returned (.string ⟨l.toArray⟩)∧Below B w w':=Any.Builder_String_any lays169 Tryz.Builder_Extra_169 B b l w h hBw
def Tryz.lays159_ren:Go.Shelf.Ren:=⟨fun|159=>250|165=>110|166=>59|167=>104|169=>60|230=>263|204=>264|240=>106|241=>165|197=>193|118=>271|168=>272|270=>273|262=>274|276=>157|277=>201|260=>226|242=>276|313=>277|278=>278|274=>279|275=>280|n=>n,fun|9=>9|4=>4|3=>3|5=>5|72=>124|0=>0|76=>127|75=>126|107=>323|70=>121|20=>20|37=>122|127=>180|21=>21|105=>262|164=>227|162=>337|203=>335|119=>303|46=>179|139=>306|138=>305|51=>234|160=>338|208=>344|206=>342|80=>129|n=>n,fun|13=>8|3=>2|4=>3|n=>n⟩
theorem lays159:Go.Proofs.Lays.n159 prog Tryz.lays159_ren:={
 mixed:=by kernel_rfl
 f118:=func271.trans (congrArg some (by kernel_rfl))
 f159:=func250.trans (congrArg some (by kernel_rfl))
 f165:=func110.trans (congrArg some (by kernel_rfl))
 f166:=func59.trans (congrArg some (by kernel_rfl))
 f167:=func104.trans (congrArg some (by kernel_rfl))
 f168:=func272.trans (congrArg some (by kernel_rfl))
 f169:=func60.trans (congrArg some (by kernel_rfl))
 f197:=func193.trans (congrArg some (by kernel_rfl))
 f204:=func264.trans (congrArg some (by kernel_rfl))
 f230:=func263.trans (congrArg some (by kernel_rfl))
 f240:=func106.trans (congrArg some (by kernel_rfl))
 f241:=func165.trans (congrArg some (by kernel_rfl))
 f242:=func276.trans (congrArg some (by kernel_rfl))
 f260:=func226.trans (congrArg some (by kernel_rfl))
 f262:=func274.trans (congrArg some (by kernel_rfl))
 f270:=func273.trans (congrArg some (by kernel_rfl))
 f274:=func279.trans (congrArg some (by kernel_rfl))
 f275:=func280.trans (congrArg some (by kernel_rfl))
 f276:=func157.trans (congrArg some (by kernel_rfl))
 f277:=func201.trans (congrArg some (by kernel_rfl))
 f278:=func278.trans (congrArg some (by kernel_rfl))
 f313:=func277.trans (congrArg some (by kernel_rfl))
 t0:=underlying0
 a0:=isAgg0
 z0:=sizeOf0
 v0:=zeroValue0
 t3:=underlying3
 a3:=isAgg3
 z3:=sizeOf3
 v3:=zeroValue3
 t4:=underlying4
 a4:=isAgg4
 z4:=sizeOf4
 v4:=zeroValue4
 t5:=underlying5
 a5:=isAgg5
 z5:=sizeOf5
 v5:=zeroValue5
 t9:=underlying9
 a9:=isAgg9
 z9:=sizeOf9
 v9:=zeroValue9
 t20:=underlying20
 a20:=isAgg20
 z20:=sizeOf20
 v20:=zeroValue20
 t21:=underlying21
 a21:=isAgg21
 z21:=sizeOf21
 v21:=zeroValue21
 t37:=underlying122
 a37:=isAgg122
 z37:=sizeOf122
 v37:=zeroValue122
 t46:=underlying179
 a46:=isAgg179
 z46:=sizeOf179
 v46:=zeroValue179
 t51:=underlying234
 a51:=isAgg234
 z51:=sizeOf234
 v51:=zeroValue234
 t70:=underlying121
 a70:=isAgg121
 z70:=sizeOf121
 v70:=zeroValue121
 t72:=underlying124
 a72:=isAgg124
 z72:=sizeOf124
 v72:=zeroValue124
 t75:=underlying126
 a75:=isAgg126
 z75:=sizeOf126
 v75:=zeroValue126
 t76:=underlying127
 a76:=isAgg127
 z76:=sizeOf127
 v76:=zeroValue127
 t105:=underlying262
 a105:=isAgg262
 z105:=sizeOf262
 v105:=zeroValue262
 t107:=underlying323
 a107:=isAgg323
 z107:=sizeOf323
 v107:=zeroValue323
 t119:=underlying303
 a119:=isAgg303
 z119:=sizeOf303
 t127:=underlying180
 a127:=isAgg180
 z127:=sizeOf180
 v127:=zeroValue180
 t138:=underlying305
 a138:=isAgg305
 z138:=sizeOf305
 v138:=zeroValue305
 t139:=underlying306
 a139:=isAgg306
 z139:=sizeOf306
 v139:=zeroValue306
 t160:=underlying338
 a160:=isAgg338
 z160:=sizeOf338
 v160:=zeroValue338
 t162:=underlying337
 a162:=isAgg337
 z162:=sizeOf337
 v162:=zeroValue337
 t164:=underlying227
 a164:=isAgg227
 z164:=sizeOf227
 v164:=zeroValue227
 t203:=underlying335
 a203:=isAgg335
 z203:=sizeOf335
 v203:=zeroValue335
 t206:=underlying342
 a206:=isAgg342
 z206:=sizeOf342
 v206:=zeroValue342
 t208:=underlying344
 a208:=isAgg344
 z208:=sizeOf344
 v208:=zeroValue344
 g3:=by kernel_rfl
 g4:=by kernel_rfl
 g13:=by kernel_rfl }
theorem Tryz.Builder_Extra_159:Builder.Extra prog Tryz.lays159_ren:={
 sizeBuilder:=by kernel_rfl
 liesBuilder:=by kernel_rfl
 t5:=underlying5
 a5:=isAgg5
 z5:=sizeOf5
 v5:=zeroValue5
 infoByte:=by kernel_rfl
 cellsByte:=by kernel_rfl
 sizeByte:=by kernel_rfl
 neB5:=by decide }
def Tryz.lays156_ren:Go.Shelf.Ren:=⟨fun|156=>83|165=>110|166=>59|169=>60|240=>106|241=>165|276=>157|277=>201|n=>n,fun|31=>25|9=>9|3=>3|4=>4|0=>0|20=>20|72=>124|76=>127|70=>121|37=>122|75=>126|127=>180|164=>227|5=>5|80=>129|n=>n,fun|n=>n⟩
theorem lays156:Go.Proofs.Lays.n156 prog Tryz.lays156_ren:={
 mixed:=by kernel_rfl
 f156:=func83.trans (congrArg some (by kernel_rfl))
 f165:=func110.trans (congrArg some (by kernel_rfl))
 f166:=func59.trans (congrArg some (by kernel_rfl))
 f169:=func60.trans (congrArg some (by kernel_rfl))
 f240:=func106.trans (congrArg some (by kernel_rfl))
 f241:=func165.trans (congrArg some (by kernel_rfl))
 f276:=func157.trans (congrArg some (by kernel_rfl))
 f277:=func201.trans (congrArg some (by kernel_rfl))
 t0:=underlying0
 a0:=isAgg0
 z0:=sizeOf0
 v0:=zeroValue0
 t3:=underlying3
 a3:=isAgg3
 z3:=sizeOf3
 v3:=zeroValue3
 t4:=underlying4
 a4:=isAgg4
 z4:=sizeOf4
 v4:=zeroValue4
 t9:=underlying9
 a9:=isAgg9
 z9:=sizeOf9
 v9:=zeroValue9
 t20:=underlying20
 a20:=isAgg20
 z20:=sizeOf20
 v20:=zeroValue20
 t31:=underlying25
 a31:=isAgg25
 z31:=sizeOf25
 v31:=zeroValue25
 t37:=underlying122
 a37:=isAgg122
 z37:=sizeOf122
 v37:=zeroValue122
 t70:=underlying121
 a70:=isAgg121
 z70:=sizeOf121
 v70:=zeroValue121
 t72:=underlying124
 a72:=isAgg124
 z72:=sizeOf124
 v72:=zeroValue124
 t75:=underlying126
 a75:=isAgg126
 z75:=sizeOf126
 v75:=zeroValue126
 t76:=underlying127
 a76:=isAgg127
 z76:=sizeOf127
 v76:=zeroValue127
 t127:=underlying180
 a127:=isAgg180
 z127:=sizeOf180
 v127:=zeroValue180
 t164:=underlying227
 a164:=isAgg227
 z164:=sizeOf227
 v164:=zeroValue227 }
theorem Tryz.Builder_Extra_156:Builder.Extra prog Tryz.lays156_ren:={
 sizeBuilder:=by kernel_rfl
 liesBuilder:=by kernel_rfl
 t5:=underlying5
 a5:=isAgg5
 z5:=sizeOf5
 v5:=zeroValue5
 infoByte:=by kernel_rfl
 cellsByte:=by kernel_rfl
 sizeByte:=by kernel_rfl
 neB5:=by decide }
open Go.RowKit in
theorem Tryz.strings_Join_none (a:Option Addr) (c:Nat) (sep:ByteArray) (w:World) :
  Calls prog 83 #[.slice a 0 c,.string sep] w fun e w'=>e=.returned (.string ⟨#[]⟩)∧w'=w:=Any.strings_Join_none lays156 Tryz.Builder_Extra_156 a c sep w
open Go.RowKit in
theorem Tryz.strings_Join (bk o c:Nat) (xs:List ByteArray) (sep:ByteArray) (w:World) (hcells:∀ (j:Nat) x,xs[j]?=some x→w.cell? ⟨bk,o+j,none⟩=some (.string x)) (hbk:bk<w.heap.size) (hN:xs.length≤140737488355328) (hcap:xs.length≤c) (hlen:(Lib.join (xs.map (·.data.toList)) sep.data.toList).length≤140737488355328) :
  Calls prog 83 #[.slice (some ⟨bk,o,none⟩) xs.length c,.string sep] w fun e w'=>e=.returned (.string ⟨(Lib.join (xs.map (·.data.toList)) sep.data.toList).toArray⟩)∧Below w.heap.size w w':=Any.strings_Join lays156 Tryz.Builder_Extra_156 bk o c xs sep w hcells hbk hN hcap hlen
def Tryz.lays160_ren:Go.Shelf.Ren:=⟨fun|160=>105|232=>151|231=>150|227=>152|234=>154|233=>153|236=>156|235=>155|228=>192|271=>195|151=>194|197=>193|120=>227|152=>224|260=>226|137=>98|119=>245|224=>246|225=>247|217=>148|266=>190|n=>n,fun|9=>9|4=>4|3=>3|5=>5|117=>223|116=>222|0=>0|124=>226|21=>21|105=>262|46=>179|119=>303|139=>306|138=>305|n=>n,fun|3=>2|4=>3|n=>n⟩
theorem lays160:Go.Proofs.Lays.n160 prog Tryz.lays160_ren:={
 mixed:=by kernel_rfl
 f119:=func245.trans (congrArg some (by kernel_rfl))
 f120:=func227.trans (congrArg some (by kernel_rfl))
 f137:=func98.trans (congrArg some (by kernel_rfl))
 f151:=func194.trans (congrArg some (by kernel_rfl))
 f152:=func224.trans (congrArg some (by kernel_rfl))
 f160:=func105.trans (congrArg some (by kernel_rfl))
 f197:=func193.trans (congrArg some (by kernel_rfl))
 f217:=func148.trans (congrArg some (by kernel_rfl))
 f224:=func246.trans (congrArg some (by kernel_rfl))
 f225:=func247.trans (congrArg some (by kernel_rfl))
 f227:=func152.trans (congrArg some (by kernel_rfl))
 f228:=func192.trans (congrArg some (by kernel_rfl))
 f231:=func150.trans (congrArg some (by kernel_rfl))
 f232:=func151.trans (congrArg some (by kernel_rfl))
 f233:=func153.trans (congrArg some (by kernel_rfl))
 f234:=func154.trans (congrArg some (by kernel_rfl))
 f235:=func155.trans (congrArg some (by kernel_rfl))
 f236:=func156.trans (congrArg some (by kernel_rfl))
 f260:=func226.trans (congrArg some (by kernel_rfl))
 f266:=func190.trans (congrArg some (by kernel_rfl))
 f271:=func195.trans (congrArg some (by kernel_rfl))
 t0:=underlying0
 a0:=isAgg0
 z0:=sizeOf0
 v0:=zeroValue0
 t3:=underlying3
 a3:=isAgg3
 z3:=sizeOf3
 v3:=zeroValue3
 t4:=underlying4
 a4:=isAgg4
 z4:=sizeOf4
 v4:=zeroValue4
 t5:=underlying5
 a5:=isAgg5
 z5:=sizeOf5
 v5:=zeroValue5
 t9:=underlying9
 a9:=isAgg9
 z9:=sizeOf9
 v9:=zeroValue9
 t21:=underlying21
 a21:=isAgg21
 z21:=sizeOf21
 v21:=zeroValue21
 t46:=underlying179
 a46:=isAgg179
 z46:=sizeOf179
 v46:=zeroValue179
 t105:=underlying262
 a105:=isAgg262
 z105:=sizeOf262
 v105:=zeroValue262
 t116:=underlying222
 a116:=isAgg222
 z116:=sizeOf222
 t117:=underlying223
 a117:=isAgg223
 z117:=sizeOf223
 v117:=zeroValue223
 t119:=underlying303
 a119:=isAgg303
 z119:=sizeOf303
 t124:=underlying226
 a124:=isAgg226
 z124:=sizeOf226
 v124:=zeroValue226
 t138:=underlying305
 a138:=isAgg305
 z138:=sizeOf305
 v138:=zeroValue305
 t139:=underlying306
 a139:=isAgg306
 z139:=sizeOf306
 v139:=zeroValue306
 g3:=by kernel_rfl
 g4:=by kernel_rfl }
def Tryz.lays119_ren:Go.Shelf.Ren:=⟨fun|119=>245|n=>n,fun|21=>21|4=>4|n=>n,fun|n=>n⟩
theorem lays119:Go.Proofs.Lays.n119 prog Tryz.lays119_ren:={
 mixed:=by kernel_rfl
 f119:=func245.trans (congrArg some (by kernel_rfl))
 t4:=underlying4
 a4:=isAgg4
 z4:=sizeOf4
 v4:=zeroValue4
 t21:=underlying21
 a21:=isAgg21
 z21:=sizeOf21
 v21:=zeroValue21 }
theorem Tryz.utf8_ValidRune (r:Int) (w:World) :
  Calls prog 245 #[.int .i32 r] w fun e w'=>e=.returned (.bool (Lib.validRune r))∧w'=w:=Any.utf8_ValidRune lays119 r w
def Tryz.lays125_ren:Go.Shelf.Ren:=⟨fun|125=>171|128=>211|129=>197|n=>n,fun|46=>179|3=>3|51=>234|53=>130|4=>4|5=>5|9=>9|n=>n,fun|n=>n⟩
theorem lays125:Go.Proofs.Lays.n125 prog Tryz.lays125_ren:={
 mixed:=by kernel_rfl
 f125:=func171.trans (congrArg some (by kernel_rfl))
 f128:=func211.trans (congrArg some (by kernel_rfl))
 f129:=func197.trans (congrArg some (by kernel_rfl))
 t3:=underlying3
 a3:=isAgg3
 z3:=sizeOf3
 v3:=zeroValue3
 t4:=underlying4
 a4:=isAgg4
 z4:=sizeOf4
 v4:=zeroValue4
 t5:=underlying5
 a5:=isAgg5
 z5:=sizeOf5
 v5:=zeroValue5
 t9:=underlying9
 a9:=isAgg9
 z9:=sizeOf9
 v9:=zeroValue9
 t46:=underlying179
 a46:=isAgg179
 z46:=sizeOf179
 v46:=zeroValue179
 t51:=underlying234
 a51:=isAgg234
 z51:=sizeOf234
 v51:=zeroValue234
 t53:=underlying130
 a53:=isAgg130
 z53:=sizeOf130
 v53:=zeroValue130 }
theorem Tryz.bits_Len (x:Int) (w:World) (h0:0≤x) (h1:x≤18446744073709551615) :
  Calls prog 171 #[.int .u64 x] w fun e w'=>e=.returned (.int .i64 (Lib.bitLen x.toNat))∧w'=w:=Any.bits_Len lays125 x w h0 h1
def Tryz.lays137_ren:Go.Shelf.Ren:=⟨fun|137=>98|217=>148|266=>190|n=>n,fun|9=>9|5=>5|3=>3|n=>n,fun|n=>n⟩
theorem lays137:Go.Proofs.Lays.n137 prog Tryz.lays137_ren:={
 mixed:=by kernel_rfl
 f137:=func98.trans (congrArg some (by kernel_rfl))
 f217:=func148.trans (congrArg some (by kernel_rfl))
 f266:=func190.trans (congrArg some (by kernel_rfl))
 t3:=underlying3
 a3:=isAgg3
 z3:=sizeOf3
 v3:=zeroValue3
 t5:=underlying5
 a5:=isAgg5
 z5:=sizeOf5
 v5:=zeroValue5
 t9:=underlying9
 a9:=isAgg9
 z9:=sizeOf9
 v9:=zeroValue9 }
open Go.RowKit in
theorem Tryz.strings_IndexByte (s:ByteArray) (c:Int) (w:World) :
  Calls prog 98 #[.string s,.int .u8 c] w fun e w'=>e=.returned (.int .i64 (Lib.indexByte s.data.toList c.toNat.toUInt8))∧w'=w:=Any.strings_IndexByte lays137 s c w
def Tryz.lays172_ren:Go.Shelf.Ren:=⟨fun|172=>188|244=>222|245=>223|247=>240|279=>241|280=>242|281=>243|282=>244|287=>260|316=>261|171=>81|205=>262|321=>269|322=>270|243=>126|246=>176|283=>158|284=>159|285=>160|286=>161|129=>197|317=>196|318=>198|319=>199|320=>200|337=>228|338=>229|n=>n,fun|9=>9|3=>3|75=>126|76=>127|4=>4|5=>5|167=>296|37=>122|0=>0|85=>297|2=>2|168=>299|53=>130|175=>317|46=>179|210=>320|127=>180|145=>329|143=>327|21=>21|171=>229|173=>232|212=>266|51=>234|20=>20|213=>267|232=>307|233=>308|80=>129|n=>n,fun|15=>6|16=>7|17=>0|18=>4|19=>5|n=>n⟩
theorem lays172:Go.Proofs.Lays.n172 prog Tryz.lays172_ren:={
 mixed:=by kernel_rfl
 f129:=func197.trans (congrArg some (by kernel_rfl))
 f171:=func81.trans (congrArg some (by kernel_rfl))
 f172:=func188.trans (congrArg some (by kernel_rfl))
 f205:=func262.trans (congrArg some (by kernel_rfl))
 f243:=func126.trans (congrArg some (by kernel_rfl))
 f244:=func222.trans (congrArg some (by kernel_rfl))
 f245:=func223.trans (congrArg some (by kernel_rfl))
 f246:=func176.trans (congrArg some (by kernel_rfl))
 f247:=func240.trans (congrArg some (by kernel_rfl))
 f279:=func241.trans (congrArg some (by kernel_rfl))
 f280:=func242.trans (congrArg some (by kernel_rfl))
 f281:=func243.trans (congrArg some (by kernel_rfl))
 f282:=func244.trans (congrArg some (by kernel_rfl))
 f283:=func158.trans (congrArg some (by kernel_rfl))
 f284:=func159.trans (congrArg some (by kernel_rfl))
 f285:=func160.trans (congrArg some (by kernel_rfl))
 f286:=func161.trans (congrArg some (by kernel_rfl))
 f287:=func260.trans (congrArg some (by kernel_rfl))
 f316:=func261.trans (congrArg some (by kernel_rfl))
 f317:=func196.trans (congrArg some (by kernel_rfl))
 f318:=func198.trans (congrArg some (by kernel_rfl))
 f319:=func199.trans (congrArg some (by kernel_rfl))
 f320:=func200.trans (congrArg some (by kernel_rfl))
 f321:=func269.trans (congrArg some (by kernel_rfl))
 f322:=func270.trans (congrArg some (by kernel_rfl))
 f337:=func228.trans (congrArg some (by kernel_rfl))
 f338:=func229.trans (congrArg some (by kernel_rfl))
 t0:=underlying0
 a0:=isAgg0
 z0:=sizeOf0
 v0:=zeroValue0
 t2:=underlying2
 a2:=isAgg2
 z2:=sizeOf2
 v2:=zeroValue2
 t3:=underlying3
 a3:=isAgg3
 z3:=sizeOf3
 v3:=zeroValue3
 t4:=underlying4
 a4:=isAgg4
 z4:=sizeOf4
 v4:=zeroValue4
 t5:=underlying5
 a5:=isAgg5
 z5:=sizeOf5
 v5:=zeroValue5
 t9:=underlying9
 a9:=isAgg9
 z9:=sizeOf9
 v9:=zeroValue9
 t20:=underlying20
 a20:=isAgg20
 z20:=sizeOf20
 v20:=zeroValue20
 t21:=underlying21
 a21:=isAgg21
 z21:=sizeOf21
 v21:=zeroValue21
 t37:=underlying122
 a37:=isAgg122
 z37:=sizeOf122
 v37:=zeroValue122
 t46:=underlying179
 a46:=isAgg179
 z46:=sizeOf179
 v46:=zeroValue179
 t51:=underlying234
 a51:=isAgg234
 z51:=sizeOf234
 v51:=zeroValue234
 t53:=underlying130
 a53:=isAgg130
 z53:=sizeOf130
 v53:=zeroValue130
 t75:=underlying126
 a75:=isAgg126
 z75:=sizeOf126
 v75:=zeroValue126
 t76:=underlying127
 a76:=isAgg127
 z76:=sizeOf127
 v76:=zeroValue127
 t85:=underlying297
 a85:=isAgg297
 z85:=sizeOf297
 v85:=zeroValue297
 t127:=underlying180
 a127:=isAgg180
 z127:=sizeOf180
 v127:=zeroValue180
 t143:=underlying327
 a143:=isAgg327
 z143:=sizeOf327
 v143:=zeroValue327
 t145:=underlying329
 a145:=isAgg329
 z145:=sizeOf329
 v145:=zeroValue329
 t167:=underlying296
 a167:=isAgg296
 z167:=sizeOf296
 v167:=zeroValue296
 t168:=underlying299
 a168:=isAgg299
 z168:=sizeOf299
 v168:=zeroValue299
 t171:=underlying229
 a171:=isAgg229
 z171:=sizeOf229
 v171:=zeroValue229
 t173:=underlying232
 a173:=isAgg232
 z173:=sizeOf232
 v173:=zeroValue232
 t175:=underlying317
 a175:=isAgg317
 z175:=sizeOf317
 v175:=zeroValue317
 t210:=underlying320
 a210:=isAgg320
 z210:=sizeOf320
 v210:=zeroValue320
 t212:=underlying266
 a212:=isAgg266
 z212:=sizeOf266
 v212:=zeroValue266
 t213:=underlying267
 a213:=isAgg267
 z213:=sizeOf267
 t232:=underlying307
 a232:=isAgg307
 z232:=sizeOf307
 v232:=zeroValue307
 t233:=underlying308
 a233:=isAgg308
 z233:=sizeOf308
 v233:=zeroValue308
 g15:=by kernel_rfl
 g16:=by kernel_rfl
 g17:=by kernel_rfl
 g18:=by kernel_rfl
 g19:=by kernel_rfl }
open Go.RowKit in
theorem Tryz.strconv_Atoi (s:ByteArray) (n:Int) (hl:s.size≤18) (h:Lib.atoi s.data.toList=some n) (w:World) :
  Calls prog 188 #[.string s] w fun e w'=>e=.returned (.tuple #[.int .i64 n,.nilIface])∧∃ t,w'=Lib.bytesWorld w 5 t:=Any.strconv_Atoi lays172 s n hl h w
def Tryz.laysM171_ren:Go.Shelf.Ren:=⟨fun|171=>81|243=>126|246=>176|283=>158|284=>159|285=>160|286=>161|129=>197|317=>196|318=>198|319=>199|320=>200|337=>228|338=>229|n=>n,fun|3=>3|9=>9|2=>2|4=>4|171=>229|0=>0|53=>130|37=>122|5=>5|173=>232|212=>266|51=>234|20=>20|213=>267|46=>179|232=>307|233=>308|n=>n,fun|17=>0|18=>4|19=>5|n=>n⟩
theorem Tryz.laysM171:Go.Proofs.LaysM.n171 prog Tryz.laysM171_ren:={
 mixed:=by kernel_rfl
 f129:=func197.trans (congrArg some (by kernel_rfl))
 f171:=func81.trans (congrArg some (by kernel_rfl))
 f243:=func126.trans (congrArg some (by kernel_rfl))
 f246:=func176.trans (congrArg some (by kernel_rfl))
 f283:=func158.trans (congrArg some (by kernel_rfl))
 f284:=func159.trans (congrArg some (by kernel_rfl))
 f285:=func160.trans (congrArg some (by kernel_rfl))
 f286:=func161.trans (congrArg some (by kernel_rfl))
 f317:=func196.trans (congrArg some (by kernel_rfl))
 f318:=func198.trans (congrArg some (by kernel_rfl))
 f319:=func199.trans (congrArg some (by kernel_rfl))
 f320:=func200.trans (congrArg some (by kernel_rfl))
 f337:=func228.trans (congrArg some (by kernel_rfl))
 f338:=func229.trans (congrArg some (by kernel_rfl))
 t0:=underlying0
 a0:=isAgg0
 z0:=sizeOf0
 v0:=zeroValue0
 t2:=underlying2
 a2:=isAgg2
 z2:=sizeOf2
 v2:=zeroValue2
 t3:=underlying3
 a3:=isAgg3
 z3:=sizeOf3
 v3:=zeroValue3
 t4:=underlying4
 a4:=isAgg4
 z4:=sizeOf4
 v4:=zeroValue4
 t5:=underlying5
 a5:=isAgg5
 z5:=sizeOf5
 v5:=zeroValue5
 t9:=underlying9
 a9:=isAgg9
 z9:=sizeOf9
 v9:=zeroValue9
 t20:=underlying20
 a20:=isAgg20
 z20:=sizeOf20
 v20:=zeroValue20
 t37:=underlying122
 a37:=isAgg122
 z37:=sizeOf122
 v37:=zeroValue122
 t46:=underlying179
 a46:=isAgg179
 z46:=sizeOf179
 v46:=zeroValue179
 t51:=underlying234
 a51:=isAgg234
 z51:=sizeOf234
 v51:=zeroValue234
 t53:=underlying130
 a53:=isAgg130
 z53:=sizeOf130
 v53:=zeroValue130
 t171:=underlying229
 a171:=isAgg229
 z171:=sizeOf229
 v171:=zeroValue229
 t173:=underlying232
 a173:=isAgg232
 z173:=sizeOf232
 v173:=zeroValue232
 t212:=underlying266
 a212:=isAgg266
 z212:=sizeOf266
 v212:=zeroValue266
 t213:=underlying267
 a213:=isAgg267
 z213:=sizeOf267
 t232:=underlying307
 a232:=isAgg307
 z232:=sizeOf307
 v232:=zeroValue307
 t233:=underlying308
 a233:=isAgg308
 z233:=sizeOf308
 v233:=zeroValue308
 g17:=by kernel_rfl
 g18:=by kernel_rfl
 g19:=by kernel_rfl
 i0:=by kernel_rfl
 i2:=by kernel_rfl
 i3:=by kernel_rfl
 i4:=by kernel_rfl
 i5:=by kernel_rfl
 i9:=by kernel_rfl
 i20:=by kernel_rfl
 i37:=by kernel_rfl
 i46:=by kernel_rfl
 i51:=by kernel_rfl
 i53:=by kernel_rfl
 i171:=by kernel_rfl
 i173:=by kernel_rfl
 i212:=by kernel_rfl
 i232:=by kernel_rfl
 i233:=by kernel_rfl
 m17:=by kernel_rfl
 m18:=by kernel_rfl
 m19:=by kernel_rfl }
open Go.RowKit Go.Sort Go.Lib in
theorem Tryz.strconv_Itoa (n:Int) (h0:-9223372036854775808≤n) (h1:n≤9223372036854775807) (w:World) (htab:Lib.TabIs prog w "internal/strconv.uint64pow10" .u64 Lib.pow10Tab) :
  Calls prog 81 #[.int .i64 n] w fun e w'=>e=.returned (.string ⟨(Lib.itoa n).toArray⟩)∧∃ k os,w'=grow (w.drewN k) os:=Any.strconv_Itoa Tryz.laysM171 n h0 h1 w htab
def Tryz.lays190_ren:Go.Shelf.Ren:=⟨fun|190=>219|125=>171|258=>238|128=>211|129=>197|302=>251|303=>252|304=>253|305=>254|306=>255|307=>256|308=>257|309=>258|310=>259|333=>265|329=>231|330=>232|334=>266|335=>267|336=>268|344=>275|n=>n,fun|31=>25|9=>9|3=>3|46=>179|0=>0|51=>234|53=>130|4=>4|183=>272|182=>271|131=>276|5=>5|218=>286|222=>290|228=>309|229=>249|n=>n,fun|n=>n⟩
theorem lays190:Go.Proofs.Lays.n190 prog Tryz.lays190_ren:={
 mixed:=by kernel_rfl
 f125:=func171.trans (congrArg some (by kernel_rfl))
 f128:=func211.trans (congrArg some (by kernel_rfl))
 f129:=func197.trans (congrArg some (by kernel_rfl))
 f190:=func219.trans (congrArg some (by kernel_rfl))
 f258:=func238.trans (congrArg some (by kernel_rfl))
 f302:=func251.trans (congrArg some (by kernel_rfl))
 f303:=func252.trans (congrArg some (by kernel_rfl))
 f304:=func253.trans (congrArg some (by kernel_rfl))
 f305:=func254.trans (congrArg some (by kernel_rfl))
 f306:=func255.trans (congrArg some (by kernel_rfl))
 f307:=func256.trans (congrArg some (by kernel_rfl))
 f308:=func257.trans (congrArg some (by kernel_rfl))
 f309:=func258.trans (congrArg some (by kernel_rfl))
 f310:=func259.trans (congrArg some (by kernel_rfl))
 f329:=func231.trans (congrArg some (by kernel_rfl))
 f330:=func232.trans (congrArg some (by kernel_rfl))
 f333:=func265.trans (congrArg some (by kernel_rfl))
 f334:=func266.trans (congrArg some (by kernel_rfl))
 f335:=func267.trans (congrArg some (by kernel_rfl))
 f336:=func268.trans (congrArg some (by kernel_rfl))
 f344:=func275.trans (congrArg some (by kernel_rfl))
 t0:=underlying0
 a0:=isAgg0
 z0:=sizeOf0
 v0:=zeroValue0
 t3:=underlying3
 a3:=isAgg3
 z3:=sizeOf3
 v3:=zeroValue3
 t4:=underlying4
 a4:=isAgg4
 z4:=sizeOf4
 v4:=zeroValue4
 t5:=underlying5
 a5:=isAgg5
 z5:=sizeOf5
 v5:=zeroValue5
 t9:=underlying9
 a9:=isAgg9
 z9:=sizeOf9
 v9:=zeroValue9
 t31:=underlying25
 a31:=isAgg25
 z31:=sizeOf25
 v31:=zeroValue25
 t46:=underlying179
 a46:=isAgg179
 z46:=sizeOf179
 v46:=zeroValue179
 t51:=underlying234
 a51:=isAgg234
 z51:=sizeOf234
 v51:=zeroValue234
 t53:=underlying130
 a53:=isAgg130
 z53:=sizeOf130
 v53:=zeroValue130
 t131:=underlying276
 a131:=isAgg276
 z131:=sizeOf276
 v131:=zeroValue276
 t182:=underlying271
 a182:=isAgg271
 z182:=sizeOf271
 v182:=zeroValue271
 t183:=underlying272
 a183:=isAgg272
 z183:=sizeOf272
 v183:=zeroValue272
 t218:=underlying286
 a218:=isAgg286
 z218:=sizeOf286
 v218:=zeroValue286
 t222:=underlying290
 a222:=isAgg290
 z222:=sizeOf290
 v222:=zeroValue290
 t228:=underlying309
 a228:=isAgg309
 z228:=sizeOf309
 v228:=zeroValue309
 t229:=underlying249
 a229:=isAgg249
 z229:=sizeOf249
 v229:=zeroValue249 }
open Go.Sort Go.RowKit in
theorem Tryz.slices_Sort_string (blk off cap:Nat) (ss:List (List UInt8)) (w:World) (hH:Holds encStr w blk off ss.toArray) (hblk:blk<w.heap.size) (hsz:ss.length<4611686018427387904) :
  Calls prog 219 #[.slice (some ⟨blk,off,none⟩) ss.length cap] w fun e w' =>
   e=.returned (.tuple #[])∧∃ n os,w'=grow (putRow encStr (Sort.ahead w n) blk off (ss.mergeSort fun x y=>decide (x≤y)).toArray) os:=Any.slices_Sort_string lays190 blk off cap ss w hH hblk hsz
def Tryz.lays99_ren:Go.Shelf.Ren:=⟨fun|99=>109|206=>164|n=>n,fun|9=>9|4=>4|3=>3|n=>n,fun|n=>n⟩
theorem lays99:Go.Proofs.Lays.n99 prog Tryz.lays99_ren:={
 mixed:=by kernel_rfl
 f99:=func109.trans (congrArg some (by kernel_rfl))
 f206:=func164.trans (congrArg some (by kernel_rfl))
 t3:=underlying3
 a3:=isAgg3
 z3:=sizeOf3
 v3:=zeroValue3
 t4:=underlying4
 a4:=isAgg4
 z4:=sizeOf4
 v4:=zeroValue4
 t9:=underlying9
 a9:=isAgg9
 z9:=sizeOf9
 v9:=zeroValue9 }
open Go.RowKit Go.Lib in
theorem Tryz.strings_HasPrefix (s p:ByteArray) (w:World) :
  Calls prog 109 #[.string s,.string p] w fun e w'=>e=.returned (.bool (Lib.hasPrefix s.data.toList p.data.toList))∧w'=w:=Any.strings_HasPrefix lays99 s p w
def Tryz.lays152_ren:Go.Shelf.Ren:=⟨fun|152=>224|137=>98|119=>245|224=>246|225=>247|217=>148|266=>190|n=>n,fun|9=>9|21=>21|3=>3|4=>4|5=>5|0=>0|46=>179|n=>n,fun|n=>n⟩
theorem lays152:Go.Proofs.Lays.n152 prog Tryz.lays152_ren:={
 mixed:=by kernel_rfl
 f119:=func245.trans (congrArg some (by kernel_rfl))
 f137:=func98.trans (congrArg some (by kernel_rfl))
 f152:=func224.trans (congrArg some (by kernel_rfl))
 f217:=func148.trans (congrArg some (by kernel_rfl))
 f224:=func246.trans (congrArg some (by kernel_rfl))
 f225:=func247.trans (congrArg some (by kernel_rfl))
 f266:=func190.trans (congrArg some (by kernel_rfl))
 t0:=underlying0
 a0:=isAgg0
 z0:=sizeOf0
 v0:=zeroValue0
 t3:=underlying3
 a3:=isAgg3
 z3:=sizeOf3
 v3:=zeroValue3
 t4:=underlying4
 a4:=isAgg4
 z4:=sizeOf4
 v4:=zeroValue4
 t5:=underlying5
 a5:=isAgg5
 z5:=sizeOf5
 v5:=zeroValue5
 t9:=underlying9
 a9:=isAgg9
 z9:=sizeOf9
 v9:=zeroValue9
 t21:=underlying21
 a21:=isAgg21
 z21:=sizeOf21
 v21:=zeroValue21
 t46:=underlying179
 a46:=isAgg179
 z46:=sizeOf179
 v46:=zeroValue179 }
open Go.RowKit Go.Lib in
theorem Tryz.strings_IndexRune_ascii (s:ByteArray) (r:Int) (w:World) (h0:0≤r) (h1:r<128) :
  Calls prog 224 #[.string s,.int .i32 r] w fun e w'=>e=.returned (.int .i64 (Lib.indexByte s.data.toList r.toNat.toUInt8))∧w'=w:=Any.strings_IndexRune_ascii lays152 s r w h0 h1
def Tryz.lays226_ren:Go.Shelf.Ren:=⟨fun|226=>225|n=>n,fun|3=>3|4=>4|n=>n,fun|n=>n⟩
theorem lays226:Go.Proofs.Lays.n226 prog Tryz.lays226_ren:={
 mixed:=by kernel_rfl
 f226:=func225.trans (congrArg some (by kernel_rfl))
 t3:=underlying3
 a3:=isAgg3
 z3:=sizeOf3
 v3:=zeroValue3
 t4:=underlying4
 a4:=isAgg4
 z4:=sizeOf4
 v4:=zeroValue4 }
open Go.RowKit Go.Lib in
theorem Tryz.strings_shouldUseASCIISet (n:Int) (w:World) :
  Calls prog 225 #[.int .i64 n] w fun e w'=>e=.returned (.bool (decide (8<n)))∧w'=w:=Any.strings_shouldUseASCIISet lays226 n w
def Tryz.lays153_ren:Go.Shelf.Ren:=⟨fun|153=>189|152=>224|226=>225|227=>152|228=>192|137=>98|119=>245|224=>246|225=>247|217=>148|266=>190|n=>n,fun|9=>9|3=>3|4=>4|5=>5|21=>21|117=>223|116=>222|0=>0|46=>179|124=>226|n=>n,fun|n=>n⟩
theorem lays153:Go.Proofs.Lays.n153 prog Tryz.lays153_ren:={
 mixed:=by kernel_rfl
 f119:=func245.trans (congrArg some (by kernel_rfl))
 f137:=func98.trans (congrArg some (by kernel_rfl))
 f152:=func224.trans (congrArg some (by kernel_rfl))
 f153:=func189.trans (congrArg some (by kernel_rfl))
 f217:=func148.trans (congrArg some (by kernel_rfl))
 f224:=func246.trans (congrArg some (by kernel_rfl))
 f225:=func247.trans (congrArg some (by kernel_rfl))
 f226:=func225.trans (congrArg some (by kernel_rfl))
 f227:=func152.trans (congrArg some (by kernel_rfl))
 f228:=func192.trans (congrArg some (by kernel_rfl))
 f266:=func190.trans (congrArg some (by kernel_rfl))
 t0:=underlying0
 a0:=isAgg0
 z0:=sizeOf0
 v0:=zeroValue0
 t3:=underlying3
 a3:=isAgg3
 z3:=sizeOf3
 v3:=zeroValue3
 t4:=underlying4
 a4:=isAgg4
 z4:=sizeOf4
 v4:=zeroValue4
 t5:=underlying5
 a5:=isAgg5
 z5:=sizeOf5
 v5:=zeroValue5
 t9:=underlying9
 a9:=isAgg9
 z9:=sizeOf9
 v9:=zeroValue9
 t21:=underlying21
 a21:=isAgg21
 z21:=sizeOf21
 v21:=zeroValue21
 t46:=underlying179
 a46:=isAgg179
 z46:=sizeOf179
 v46:=zeroValue179
 t116:=underlying222
 a116:=isAgg222
 z116:=sizeOf222
 t117:=underlying223
 a117:=isAgg223
 z117:=sizeOf223
 v117:=zeroValue223
 t124:=underlying226
 a124:=isAgg226
 z124:=sizeOf226
 v124:=zeroValue226 }
open Go.RowKit Go.Lib in
theorem Tryz.strings_IndexAny_long (hv116:∀ w,(zeroValue 222).run prog w=.ok (.agg (Array.replicate 256 (.bool false))) w) (s chars:ByteArray) (w:World) (h2:2≤chars.size) (h8:8<s.size) (hs:s.size<4294967281) (hcs:chars.size<4294967281) (hascii:∀ (j:Nat) b,chars.data.toList[j]?=some b→b.toNat<128) :
  Calls prog 189 #[.string s,.string chars] w fun e w'=>e=.returned (.int .i64 (Lib.indexAny s.data.toList chars.data.toList))∧w'=((w.alloc (.cells (Lib.setCells chars.data.toList) 222)).alloc (.cells (Lib.setCells chars.data.toList) 222)):=Any.strings_IndexAny_long lays153 hv116 (by kernel_rfl) s chars w h2 h8 hs hcs hascii
def Tryz.lays105_ren:Go.Shelf.Ren:=⟨fun|105=>64|212=>108|99=>109|165=>110|166=>59|170=>111|169=>60|263=>162|264=>163|206=>164|240=>106|241=>165|276=>157|277=>201|n=>n,fun|9=>9|3=>3|4=>4|20=>20|0=>0|46=>179|109=>183|5=>5|72=>124|76=>127|51=>234|146=>235|53=>130|148=>237|70=>121|37=>122|75=>126|127=>180|164=>227|80=>129|n=>n,fun|n=>n⟩
theorem lays105:Go.Proofs.Lays.n105 prog Tryz.lays105_ren:={
 mixed:=by kernel_rfl
 f99:=func109.trans (congrArg some (by kernel_rfl))
 f105:=func64.trans (congrArg some (by kernel_rfl))
 f165:=func110.trans (congrArg some (by kernel_rfl))
 f166:=func59.trans (congrArg some (by kernel_rfl))
 f169:=func60.trans (congrArg some (by kernel_rfl))
 f170:=func111.trans (congrArg some (by kernel_rfl))
 f206:=func164.trans (congrArg some (by kernel_rfl))
 f212:=func108.trans (congrArg some (by kernel_rfl))
 f240:=func106.trans (congrArg some (by kernel_rfl))
 f241:=func165.trans (congrArg some (by kernel_rfl))
 f263:=func162.trans (congrArg some (by kernel_rfl))
 f264:=func163.trans (congrArg some (by kernel_rfl))
 f276:=func157.trans (congrArg some (by kernel_rfl))
 f277:=func201.trans (congrArg some (by kernel_rfl))
 t0:=underlying0
 a0:=isAgg0
 z0:=sizeOf0
 v0:=zeroValue0
 t3:=underlying3
 a3:=isAgg3
 z3:=sizeOf3
 v3:=zeroValue3
 t4:=underlying4
 a4:=isAgg4
 z4:=sizeOf4
 v4:=zeroValue4
 t5:=underlying5
 a5:=isAgg5
 z5:=sizeOf5
 v5:=zeroValue5
 t9:=underlying9
 a9:=isAgg9
 z9:=sizeOf9
 v9:=zeroValue9
 t20:=underlying20
 a20:=isAgg20
 z20:=sizeOf20
 v20:=zeroValue20
 t37:=underlying122
 a37:=isAgg122
 z37:=sizeOf122
 v37:=zeroValue122
 t46:=underlying179
 a46:=isAgg179
 z46:=sizeOf179
 v46:=zeroValue179
 t51:=underlying234
 a51:=isAgg234
 z51:=sizeOf234
 v51:=zeroValue234
 t53:=underlying130
 a53:=isAgg130
 z53:=sizeOf130
 v53:=zeroValue130
 t70:=underlying121
 a70:=isAgg121
 z70:=sizeOf121
 v70:=zeroValue121
 t72:=underlying124
 a72:=isAgg124
 z72:=sizeOf124
 v72:=zeroValue124
 t75:=underlying126
 a75:=isAgg126
 z75:=sizeOf126
 v75:=zeroValue126
 t76:=underlying127
 a76:=isAgg127
 z76:=sizeOf127
 v76:=zeroValue127
 t109:=underlying183
 a109:=isAgg183
 z109:=sizeOf183
 v109:=zeroValue183
 t127:=underlying180
 a127:=isAgg180
 z127:=sizeOf180
 v127:=zeroValue180
 t146:=underlying235
 a146:=isAgg235
 z146:=sizeOf235
 v146:=zeroValue235
 t148:=underlying237
 a148:=isAgg237
 z148:=sizeOf237
 v148:=zeroValue237
 t164:=underlying227
 a164:=isAgg227
 z164:=sizeOf227
 v164:=zeroValue227 }
theorem Tryz.Builder_Extra_105:Builder.Extra prog Tryz.lays105_ren:={
 sizeBuilder:=by kernel_rfl
 liesBuilder:=by kernel_rfl
 t5:=underlying5
 a5:=isAgg5
 z5:=sizeOf5
 v5:=zeroValue5
 infoByte:=by kernel_rfl
 cellsByte:=by kernel_rfl
 sizeByte:=by kernel_rfl
 neB5:=by decide }
open Go.RowKit Go.Lib in
theorem Tryz.strings_Repeat (s:ByteArray) (c:Nat) (w:World) (hc:c≤9223372036854775807) (hlen:s.size*c≤140737488355328) :
  Calls prog 64 #[.string s,.int .i64 c] w fun e w'=>e=.returned (.string ⟨(Lib.repeatL s.data.toList c).toArray⟩)∧Below w.heap.size w w':=Any.strings_Repeat lays105 Tryz.Builder_Extra_105 s c w hc hlen
def Tryz.lays260_ren:Go.Shelf.Ren:=⟨fun|260=>226|n=>n,fun|9=>9|21=>21|3=>3|4=>4|5=>5|119=>303|0=>0|46=>179|139=>306|138=>305|n=>n,fun|3=>2|4=>3|n=>n⟩
theorem lays260:Go.Proofs.Lays.n260 prog Tryz.lays260_ren:={
 mixed:=by kernel_rfl
 f260:=func226.trans (congrArg some (by kernel_rfl))
 t0:=underlying0
 a0:=isAgg0
 z0:=sizeOf0
 v0:=zeroValue0
 t3:=underlying3
 a3:=isAgg3
 z3:=sizeOf3
 v3:=zeroValue3
 t4:=underlying4
 a4:=isAgg4
 z4:=sizeOf4
 v4:=zeroValue4
 t5:=underlying5
 a5:=isAgg5
 z5:=sizeOf5
 v5:=zeroValue5
 t9:=underlying9
 a9:=isAgg9
 z9:=sizeOf9
 v9:=zeroValue9
 t21:=underlying21
 a21:=isAgg21
 z21:=sizeOf21
 v21:=zeroValue21
 t46:=underlying179
 a46:=isAgg179
 z46:=sizeOf179
 v46:=zeroValue179
 t119:=underlying303
 a119:=isAgg303
 z119:=sizeOf303
 t138:=underlying305
 a138:=isAgg305
 z138:=sizeOf305
 v138:=zeroValue305
 t139:=underlying306
 a139:=isAgg306
 z139:=sizeOf306
 v139:=zeroValue306
 g3:=by kernel_rfl
 g4:=by kernel_rfl }
def Tryz.lays274_ren:Go.Shelf.Ren:=⟨fun|274=>279|n=>n,fun|21=>21|162=>337|160=>338|3=>3|4=>4|46=>179|0=>0|208=>344|51=>234|206=>342|n=>n,fun|n=>n⟩
theorem lays274:Go.Proofs.Lays.n274 prog Tryz.lays274_ren:={
 mixed:=by kernel_rfl
 f274:=func279.trans (congrArg some (by kernel_rfl))
 t0:=underlying0
 a0:=isAgg0
 z0:=sizeOf0
 v0:=zeroValue0
 t3:=underlying3
 a3:=isAgg3
 z3:=sizeOf3
 v3:=zeroValue3
 t4:=underlying4
 a4:=isAgg4
 z4:=sizeOf4
 v4:=zeroValue4
 t21:=underlying21
 a21:=isAgg21
 z21:=sizeOf21
 v21:=zeroValue21
 t46:=underlying179
 a46:=isAgg179
 z46:=sizeOf179
 v46:=zeroValue179
 t51:=underlying234
 a51:=isAgg234
 z51:=sizeOf234
 v51:=zeroValue234
 t160:=underlying338
 a160:=isAgg338
 z160:=sizeOf338
 v160:=zeroValue338
 t162:=underlying337
 a162:=isAgg337
 z162:=sizeOf337
 v162:=zeroValue337
 t208:=underlying344
 a208:=isAgg344
 z208:=sizeOf344
 v208:=zeroValue344 }
open Go.RowKit Go.Lib in
theorem Tryz.strings_ToLower_any (s:ByteArray) (w:World) (hs:s.size<35184372088832) (hV:CaseVar 8 caseA w) (hT:Lib.Utf8Tabs 2 3 w) :
  Calls prog 250 #[.string s] w fun e w'=>e=.returned (.string ⟨(Lib.toLowerD s.data.toList).toArray⟩)∧Below w.heap.size w w':=Any.strings_ToLower_any lays159 Tryz.Builder_Extra_159 s w hs hV hT
def Tryz.lays107_ren:Go.Shelf.Ren:=⟨fun|107=>221|108=>239|n=>n,fun|28=>95|3=>3|4=>4|0=>0|n=>n,fun|n=>n⟩
theorem lays107:Go.Proofs.Lays.n107 prog Tryz.lays107_ren:={
 mixed:=by kernel_rfl
 f107:=func221.trans (congrArg some (by kernel_rfl))
 f108:=func239.trans (congrArg some (by kernel_rfl))
 t0:=underlying0
 a0:=isAgg0
 z0:=sizeOf0
 v0:=zeroValue0
 t3:=underlying3
 a3:=isAgg3
 z3:=sizeOf3
 v3:=zeroValue3
 t4:=underlying4
 a4:=isAgg4
 z4:=sizeOf4
 v4:=zeroValue4
 t28:=underlying95
 a28:=isAgg95
 z28:=sizeOf95
 v28:=zeroValue95 }
open Go.Lib in
theorem Tryz.slices_Contains_int (b off n c:Nat) (zs:List Int) (x:Int) (w:World) (hz:n≤zs.length) (hbig:n≤9223372036854775807) (hc:∀ j,j<zs.length→w.cell? ⟨b,off+j,none⟩=some (.int .i64 (zs.getD j 0))) :
  Calls prog 221 #[.slice (some ⟨b,off,none⟩) n c,.int .i64 x] w fun e w'=>e=.returned (.bool ((zs.take n).contains x))∧w'=w:=Any.slices_Contains_int lays107 b off n c zs x w hz hbig hc
def Tryz.lays110_ren:Go.Shelf.Ren:=⟨fun|110=>179|109=>216|n=>n,fun|31=>25|9=>9|4=>4|3=>3|0=>0|n=>n,fun|n=>n⟩
theorem lays110:Go.Proofs.Lays.n110 prog Tryz.lays110_ren:={
 mixed:=by kernel_rfl
 f109:=func216.trans (congrArg some (by kernel_rfl))
 f110:=func179.trans (congrArg some (by kernel_rfl))
 t0:=underlying0
 a0:=isAgg0
 z0:=sizeOf0
 v0:=zeroValue0
 t3:=underlying3
 a3:=isAgg3
 z3:=sizeOf3
 v3:=zeroValue3
 t4:=underlying4
 a4:=isAgg4
 z4:=sizeOf4
 v4:=zeroValue4
 t9:=underlying9
 a9:=isAgg9
 z9:=sizeOf9
 v9:=zeroValue9
 t31:=underlying25
 a31:=isAgg25
 z31:=sizeOf25
 v31:=zeroValue25 }
open Go.Lib in
theorem Tryz.slices_Contains_string (b off n c:Nat) (zs:List ByteArray) (x:ByteArray) (w:World) (hz:n≤zs.length) (hbig:n≤9223372036854775807) (hc:∀ j,j<zs.length→w.cell? ⟨b,off+j,none⟩=some (.string (zs.getD j ByteArray.empty))) :
  Calls prog 179 #[.slice (some ⟨b,off,none⟩) n c,.string x] w fun e w'=>e=.returned (.bool (Lib.containsS (zs.take n) x))∧w'=w:=Any.slices_Contains_string lays110 b off n c zs x w hz hbig hc
def Tryz.laysNm217_ren:Go.Shelf.Ren:=⟨fun|17=>99|n=>n,fun|24=>25|9=>9|3=>3|4=>4|0=>0|n=>n,fun|n=>n⟩
theorem Tryz.laysNm217:Go.Proofs.Lays2.n17 prog Tryz.laysNm217_ren:={
 mixed:=by kernel_rfl
 f17:=func99.trans (congrArg some (by kernel_rfl))
 t0:=underlying0
 a0:=isAgg0
 z0:=sizeOf0
 v0:=zeroValue0
 t3:=underlying3
 a3:=isAgg3
 z3:=sizeOf3
 v3:=zeroValue3
 t4:=underlying4
 a4:=isAgg4
 z4:=sizeOf4
 v4:=zeroValue4
 t9:=underlying9
 a9:=isAgg9
 z9:=sizeOf9
 v9:=zeroValue9
 t24:=underlying25
 a24:=isAgg25
 z24:=sizeOf25
 v24:=zeroValue25 }
open Go.RowKit Go.Lib Go.Sort in
theorem Tryz.slices_Reverse_string_empty (a:Option Addr) (cap:Nat) (w:World) :
  Calls prog 99 #[.slice a 0 cap] w fun e w'=>e=.returned (.tuple #[])∧w'=w:=Any.slices_Reverse_string_empty Tryz.laysNm217 a cap w
def Tryz.laysNm216_ren:Go.Shelf.Ren:=⟨fun|16=>31|n=>n,fun|24=>25|9=>9|4=>4|n=>n,fun|n=>n⟩
theorem Tryz.laysNm216:Go.Proofs.Lays2.n16 prog Tryz.laysNm216_ren:={
 mixed:=by kernel_rfl
 f16:=func31.trans (congrArg some (by kernel_rfl))
 t4:=underlying4
 a4:=isAgg4
 z4:=sizeOf4
 v4:=zeroValue4
 t9:=underlying9
 a9:=isAgg9
 z9:=sizeOf9
 v9:=zeroValue9
 t24:=underlying25
 a24:=isAgg25
 z24:=sizeOf25
 v24:=zeroValue25
 i9:=by kernel_rfl }
open Go.RowKit Go.Lib in
theorem Tryz.slices_Clone_string (b off n c:Nat) (zs:List ByteArray) (w:World) (hz:n≤zs.length) (hbig:n*16≤140737488355328) (hc:∀ j,j<zs.length→w.cell? ⟨b,off+j,none⟩=some (.string (zs.getD j ByteArray.empty))) :
  Calls prog 31 #[.slice (some ⟨b,off,none⟩) n c] w fun e w'=>∃ v',e=.returned v'∧w'.ownsRow w.heap.size 9 1 v' n ((zs.take n).map (Value.string))∧v'≠.slice none 0 0∧Below w.heap.size w w':=Any.slices_Clone_string Tryz.laysNm216 b off n c zs w hz hbig hc
open Go.RowKit Go.Lib in
theorem Tryz.slices_Clone_string_nil (n c:Nat) (w:World) :
  Calls prog 31 #[.slice none n c] w fun e w'=>e=.returned (.slice none 0 0)∧w'=w:=Any.slices_Clone_string_nil Tryz.laysNm216 n c w
open Go.RowKit Go.Lib in
theorem Tryz.slices_Clone_string_zero (a:Addr) (c:Nat) (w:World) :
  Calls prog 31 #[.slice (some a) 0 c] w fun e w'=>∃ v',e=.returned v'∧w'.ownsRow w.heap.size 9 1 v' 0 []∧v'≠.slice none 0 0∧Below w.heap.size w w':=Any.slices_Clone_string_zero Tryz.laysNm216 a c w
open Go.RowKit Go.Lib Go.Sort in
theorem Tryz.slices_Reverse_string_cells (b off n c:Nat) (Sx:Nat→ByteArray) (w:World) (hbig:n≤9223372036854775807) (hc:∀ i,i<n→w.cell? ⟨b,off+i,none⟩=some (.string (Sx i))) (hf:∀ j,j<n→w.frozen? ⟨b,off+j,none⟩=false) :
  Calls prog 99 #[.slice (some ⟨b,off,none⟩) n c] w fun e w'=>e=.returned (.tuple #[])∧∃ q,w'=(w.drewN q).setCells b off ((Lib.strsOf Sx n).reverse.map encStr):=Any.slices_Reverse_string_cells Tryz.laysNm217 b off n c Sx w hbig hc hf
open Go.RowKit Go.Sort in
theorem Tryz.slices_Sort_string_none (p:Option Addr) (cap:Nat) (w:World) :
  Calls prog 219 #[.slice p 0 cap] w fun e w'=>e=.returned (.tuple #[])∧w'=w:=Any.slices_Sort_string_none lays190 p cap w
end
end Go.Proofs

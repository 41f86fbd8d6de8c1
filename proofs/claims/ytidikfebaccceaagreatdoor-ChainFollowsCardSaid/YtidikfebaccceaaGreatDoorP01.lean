/-
  ChainFollows: the proof, part 2 of 15.
-/
import Derived.Test.YtidikfebaccceaaGreatDoorP00
import Derived.Shelf.Strings.Builder1
import Derived.Shelf.Strings.Builder2
import Derived.Shelf.Strings.OnBuilder
import Derived.Shelf.Strings.Trim
import Derived.Shelf.Small.Utf8
import Derived.Shelf.Small.Bits
import Derived.Shelf.Small.Strs
import Derived.Shelf.Small.Wraps
import Derived.Shelf.Strings.BuilderF
import Derived.Shelf.Strings.BuilderK
import Derived.Shelf.Strings.BuilderRune
import Derived.Shelf.Strconv.Atoi
import Derived.Shelf.Strconv.Itoa0
import Derived.Shelf.Strconv.Itoa1
import Derived.Shelf.LaysM
import Derived.Shelf.Strconv.Itoa2
import Derived.Shelf.Strconv.Itoa3
import Derived.Shelf.Strconv.AtoiErrFast
import Derived.Shelf.Strconv.ParseIntEmpty
import Derived.Shelf.Strconv.AtoiFail
import Derived.Shelf.Strconv.Clone
import Derived.Shelf.Strconv.SyntaxError
import Derived.Shelf.LaysC
import Derived.Shelf.Strconv.ToError
import Derived.Shelf.Strconv.Lower
import Derived.Shelf.Strconv.ParseUint10
import Derived.Shelf.Strconv.ParseUint10Empty
import Derived.Shelf.Strconv.ParseUint10Any
import Derived.Shelf.Strconv.ParseInt10
import Derived.Shelf.Strconv.AtoiLong
import Derived.Shelf.Strconv.AtoiInnerAll
import Derived.Shelf.Strconv.RangeError
import Derived.Shelf.Strconv.ToErrorRange
import Derived.Shelf.Strconv.AtoiAll
import Derived.Shelf.Strconv.ErrVarAll
import Derived.Shelf.Strings.Search1
import Derived.Shelf.Strings.Prefix
import Derived.Shelf.Unicode.Latin
import Derived.Shelf.Strings.Runes
import Derived.Shelf.Strings.IndexAny
import Derived.Shelf.Strings.AsciiSet
import Derived.Shelf.Strings.IndexAnyAll
import Derived.Shelf.Bits.Mul64
import Derived.Shelf.Strings.Repeat
import Derived.Shelf.Unicode.DecodeSlow
import Derived.Shelf.Unicode.DecodeAny
import Derived.Shelf.Unicode.CaseLookup
import Derived.Shelf.Unicode.CaseConvert
import Derived.Shelf.Unicode.CaseTo
import Derived.Shelf.Unicode.CaseLaid
import Derived.Shelf.Strings.MapAny
import Derived.Shelf.Strings.CaseAny
import Derived.Shelf.Slices.Turned
import Derived.Ground.Names2Prog
import Derived.Shelf.Slices.ReverseS
import Derived.Shelf.Slices.Clone
import Derived.Shelf.Slices.Cells
import Derived.Test.YtidikfebaccceaaGreatDoorProg
set_option linter.unusedSimpArgs false
set_option linter.unusedVariables false
set_option maxHeartbeats 40000000
namespace Go.Proofs
open Go.Shelf Tryz
def Tryz.lays169_ren:Go.Shelf.Ren:=⟨fun|169=>60|n=>n,fun|70=>124|9=>9|0=>0|72=>127|37=>125|127=>186|3=>3|5=>5|n=>n,fun|n=>n⟩
theorem lays169:Go.Proofs.Lays.n169 Tryz.prog Tryz.lays169_ren:={
 mixed:=by kernel_rfl
 f169:=func60.trans (congrArg some (by kernel_rfl))
 t0:=underlying0
 a0:=isAgg0
 z0:=sizeOf0
 v0:=zeroValue0
 t3:=underlying3
 a3:=isAgg3
 z3:=sizeOf3
 v3:=zeroValue3
 t9:=underlying9
 a9:=isAgg9
 z9:=sizeOf9
 v9:=zeroValue9
 t37:=underlying125
 a37:=isAgg125
 z37:=sizeOf125
 v37:=zeroValue125
 t70:=underlying124
 a70:=isAgg124
 z70:=sizeOf124
 v70:=zeroValue124
 t72:=underlying127
 a72:=isAgg127
 z72:=sizeOf127
 v72:=zeroValue127
 t127:=underlying186
 a127:=isAgg186
 z127:=sizeOf186
 v127:=zeroValue186 }
theorem Tryz.Builder_Extra_169:Builder.Extra Tryz.prog Tryz.lays169_ren:={
 sizeBuilder:=by kernel_rfl
 liesBuilder:=by kernel_rfl
 t5:=underlying5
 a5:=isAgg5
 z5:=sizeOf5
 v5:=zeroValue5
 infoByte:=by kernel_rfl
 cellsByte:=by kernel_rfl
 sizeByte:=by kernel_rfl
 neB5:=by decide }
open Go.RowKit in
theorem Tryz.Builder_String_any (B b:Nat) (l:List UInt8) (w:World) (h:Lib.IsBuilder 127 5 B b (Lib.byteCells l) w) (hBw:B≤w.heap.size) :
  Calls Tryz.prog 60 #[.pointer (some ⟨b,0,none⟩)] w fun e w'=>e=.returned (.string ⟨l.toArray⟩)∧Below B w w':=Any.Builder_String_any lays169 Tryz.Builder_Extra_169 B b l w h hBw
def Tryz.lays159_ren:Go.Shelf.Ren:=⟨fun|159=>248|165=>111|166=>59|167=>113|169=>60|230=>261|204=>262|240=>107|241=>166|197=>190|118=>269|168=>270|270=>271|262=>272|276=>158|277=>200|260=>224|242=>274|313=>275|278=>276|274=>277|275=>278|n=>n,fun|9=>9|4=>4|3=>3|5=>5|72=>127|0=>0|76=>130|75=>129|107=>325|70=>124|20=>20|37=>125|127=>186|21=>21|105=>264|164=>230|162=>339|203=>337|119=>305|46=>189|139=>308|138=>307|51=>237|160=>340|208=>346|206=>344|80=>132|n=>n,fun|13=>8|3=>2|4=>3|n=>n⟩
theorem lays159:Go.Proofs.Lays.n159 Tryz.prog Tryz.lays159_ren:={
 mixed:=by kernel_rfl
 f118:=func269.trans (congrArg some (by kernel_rfl))
 f159:=func248.trans (congrArg some (by kernel_rfl))
 f165:=func111.trans (congrArg some (by kernel_rfl))
 f166:=func59.trans (congrArg some (by kernel_rfl))
 f167:=func113.trans (congrArg some (by kernel_rfl))
 f168:=func270.trans (congrArg some (by kernel_rfl))
 f169:=func60.trans (congrArg some (by kernel_rfl))
 f197:=func190.trans (congrArg some (by kernel_rfl))
 f204:=func262.trans (congrArg some (by kernel_rfl))
 f230:=func261.trans (congrArg some (by kernel_rfl))
 f240:=func107.trans (congrArg some (by kernel_rfl))
 f241:=func166.trans (congrArg some (by kernel_rfl))
 f242:=func274.trans (congrArg some (by kernel_rfl))
 f260:=func224.trans (congrArg some (by kernel_rfl))
 f262:=func272.trans (congrArg some (by kernel_rfl))
 f270:=func271.trans (congrArg some (by kernel_rfl))
 f274:=func277.trans (congrArg some (by kernel_rfl))
 f275:=func278.trans (congrArg some (by kernel_rfl))
 f276:=func158.trans (congrArg some (by kernel_rfl))
 f277:=func200.trans (congrArg some (by kernel_rfl))
 f278:=func276.trans (congrArg some (by kernel_rfl))
 f313:=func275.trans (congrArg some (by kernel_rfl))
 t0:=underlying0
 a0:=isAgg0
 z0:=sizeOf0
 v0:=zeroValue0
 t3:=underlying3
 a3:=isAgg3
 z3:=sizeOf3
 v3:=zeroValue3
 t4:=underlying4
 a4:=isAgg4
 z4:=sizeOf4
 v4:=zeroValue4
 t5:=underlying5
 a5:=isAgg5
 z5:=sizeOf5
 v5:=zeroValue5
 t9:=underlying9
 a9:=isAgg9
 z9:=sizeOf9
 v9:=zeroValue9
 t20:=underlying20
 a20:=isAgg20
 z20:=sizeOf20
 v20:=zeroValue20
 t21:=underlying21
 a21:=isAgg21
 z21:=sizeOf21
 v21:=zeroValue21
 t37:=underlying125
 a37:=isAgg125
 z37:=sizeOf125
 v37:=zeroValue125
 t46:=underlying189
 a46:=isAgg189
 z46:=sizeOf189
 v46:=zeroValue189
 t51:=underlying237
 a51:=isAgg237
 z51:=sizeOf237
 v51:=zeroValue237
 t70:=underlying124
 a70:=isAgg124
 z70:=sizeOf124
 v70:=zeroValue124
 t72:=underlying127
 a72:=isAgg127
 z72:=sizeOf127
 v72:=zeroValue127
 t75:=underlying129
 a75:=isAgg129
 z75:=sizeOf129
 v75:=zeroValue129
 t76:=underlying130
 a76:=isAgg130
 z76:=sizeOf130
 v76:=zeroValue130
 t105:=underlying264
 a105:=isAgg264
 z105:=sizeOf264
 v105:=zeroValue264
 t107:=underlying325
 a107:=isAgg325
 z107:=sizeOf325
 v107:=zeroValue325
 t119:=underlying305
 a119:=isAgg305
 z119:=sizeOf305
 t127:=underlying186
 a127:=isAgg186
 z127:=sizeOf186
 v127:=zeroValue186
 t138:=underlying307
 a138:=isAgg307
 z138:=sizeOf307
 v138:=zeroValue307
 t139:=underlying308
 a139:=isAgg308
 z139:=sizeOf308
 v139:=zeroValue308
 t160:=underlying340
 a160:=isAgg340
 z160:=sizeOf340
 v160:=zeroValue340
 t162:=underlying339
 a162:=isAgg339
 z162:=sizeOf339
 v162:=zeroValue339
 t164:=underlying230
 a164:=isAgg230
 z164:=sizeOf230
 v164:=zeroValue230
 t203:=underlying337
 a203:=isAgg337
 z203:=sizeOf337
 v203:=zeroValue337
 t206:=underlying344
 a206:=isAgg344
 z206:=sizeOf344
 v206:=zeroValue344
 t208:=underlying346
 a208:=isAgg346
 z208:=sizeOf346
 v208:=zeroValue346
 g3:=by kernel_rfl
 g4:=by kernel_rfl
 g13:=by kernel_rfl }
theorem Tryz.Builder_Extra_159:Builder.Extra Tryz.prog Tryz.lays159_ren:={
 sizeBuilder:=by kernel_rfl
 liesBuilder:=by kernel_rfl
 t5:=underlying5
 a5:=isAgg5
 z5:=sizeOf5
 v5:=zeroValue5
 infoByte:=by kernel_rfl
 cellsByte:=by kernel_rfl
 sizeByte:=by kernel_rfl
 neB5:=by decide }
def Tryz.lays156_ren:Go.Shelf.Ren:=⟨fun|156=>82|165=>111|166=>59|169=>60|240=>107|241=>166|276=>158|277=>200|n=>n,fun|31=>22|9=>9|3=>3|4=>4|0=>0|20=>20|72=>127|76=>130|70=>124|37=>125|75=>129|127=>186|164=>230|5=>5|80=>132|n=>n,fun|n=>n⟩
theorem lays156:Go.Proofs.Lays.n156 Tryz.prog Tryz.lays156_ren:={
 mixed:=by kernel_rfl
 f156:=func82.trans (congrArg some (by kernel_rfl))
 f165:=func111.trans (congrArg some (by kernel_rfl))
 f166:=func59.trans (congrArg some (by kernel_rfl))
 f169:=func60.trans (congrArg some (by kernel_rfl))
 f240:=func107.trans (congrArg some (by kernel_rfl))
 f241:=func166.trans (congrArg some (by kernel_rfl))
 f276:=func158.trans (congrArg some (by kernel_rfl))
 f277:=func200.trans (congrArg some (by kernel_rfl))
 t0:=underlying0
 a0:=isAgg0
 z0:=sizeOf0
 v0:=zeroValue0
 t3:=underlying3
 a3:=isAgg3
 z3:=sizeOf3
 v3:=zeroValue3
 t4:=underlying4
 a4:=isAgg4
 z4:=sizeOf4
 v4:=zeroValue4
 t9:=underlying9
 a9:=isAgg9
 z9:=sizeOf9
 v9:=zeroValue9
 t20:=underlying20
 a20:=isAgg20
 z20:=sizeOf20
 v20:=zeroValue20
 t31:=underlying22
 a31:=isAgg22
 z31:=sizeOf22
 v31:=zeroValue22
 t37:=underlying125
 a37:=isAgg125
 z37:=sizeOf125
 v37:=zeroValue125
 t70:=underlying124
 a70:=isAgg124
 z70:=sizeOf124
 v70:=zeroValue124
 t72:=underlying127
 a72:=isAgg127
 z72:=sizeOf127
 v72:=zeroValue127
 t75:=underlying129
 a75:=isAgg129
 z75:=sizeOf129
 v75:=zeroValue129
 t76:=underlying130
 a76:=isAgg130
 z76:=sizeOf130
 v76:=zeroValue130
 t127:=underlying186
 a127:=isAgg186
 z127:=sizeOf186
 v127:=zeroValue186
 t164:=underlying230
 a164:=isAgg230
 z164:=sizeOf230
 v164:=zeroValue230 }
theorem Tryz.Builder_Extra_156:Builder.Extra Tryz.prog Tryz.lays156_ren:={
 sizeBuilder:=by kernel_rfl
 liesBuilder:=by kernel_rfl
 t5:=underlying5
 a5:=isAgg5
 z5:=sizeOf5
 v5:=zeroValue5
 infoByte:=by kernel_rfl
 cellsByte:=by kernel_rfl
 sizeByte:=by kernel_rfl
 neB5:=by decide }
open Go.RowKit in
theorem Tryz.strings_Join_none (a:Option Addr) (c:Nat) (sep:ByteArray) (w:World) :
  Calls Tryz.prog 82 #[.slice a 0 c,.string sep] w fun e w'=>e=.returned (.string ⟨#[]⟩)∧w'=w:=Any.strings_Join_none lays156 Tryz.Builder_Extra_156 a c sep w
open Go.RowKit in
theorem Tryz.strings_Join (bk o c:Nat) (xs:List ByteArray) (sep:ByteArray) (w:World) (hcells:∀ (j:Nat) x,xs[j]?=some x→w.cell? ⟨bk,o+j,none⟩=some (.string x)) (hbk:bk<w.heap.size) (hN:xs.length≤140737488355328) (hcap:xs.length≤c) (hlen:(Lib.join (xs.map (·.data.toList)) sep.data.toList).length≤140737488355328) :
  Calls Tryz.prog 82 #[.slice (some ⟨bk,o,none⟩) xs.length c,.string sep] w fun e w'=>e=.returned (.string ⟨(Lib.join (xs.map (·.data.toList)) sep.data.toList).toArray⟩)∧Below w.heap.size w w':=Any.strings_Join lays156 Tryz.Builder_Extra_156 bk o c xs sep w hcells hbk hN hcap hlen
def Tryz.lays160_ren:Go.Shelf.Ren:=⟨fun|160=>100|232=>148|231=>147|227=>149|234=>151|233=>150|236=>153|235=>152|228=>189|271=>192|151=>191|197=>190|120=>225|152=>222|260=>224|137=>102|119=>243|224=>244|225=>245|217=>154|266=>193|n=>n,fun|9=>9|4=>4|3=>3|5=>5|117=>225|116=>224|0=>0|124=>228|21=>21|105=>264|46=>189|119=>305|139=>308|138=>307|n=>n,fun|3=>2|4=>3|n=>n⟩
theorem lays160:Go.Proofs.Lays.n160 Tryz.prog Tryz.lays160_ren:={
 mixed:=by kernel_rfl
 f119:=func243.trans (congrArg some (by kernel_rfl))
 f120:=func225.trans (congrArg some (by kernel_rfl))
 f137:=func102.trans (congrArg some (by kernel_rfl))
 f151:=func191.trans (congrArg some (by kernel_rfl))
 f152:=func222.trans (congrArg some (by kernel_rfl))
 f160:=func100.trans (congrArg some (by kernel_rfl))
 f197:=func190.trans (congrArg some (by kernel_rfl))
 f217:=func154.trans (congrArg some (by kernel_rfl))
 f224:=func244.trans (congrArg some (by kernel_rfl))
 f225:=func245.trans (congrArg some (by kernel_rfl))
 f227:=func149.trans (congrArg some (by kernel_rfl))
 f228:=func189.trans (congrArg some (by kernel_rfl))
 f231:=func147.trans (congrArg some (by kernel_rfl))
 f232:=func148.trans (congrArg some (by kernel_rfl))
 f233:=func150.trans (congrArg some (by kernel_rfl))
 f234:=func151.trans (congrArg some (by kernel_rfl))
 f235:=func152.trans (congrArg some (by kernel_rfl))
 f236:=func153.trans (congrArg some (by kernel_rfl))
 f260:=func224.trans (congrArg some (by kernel_rfl))
 f266:=func193.trans (congrArg some (by kernel_rfl))
 f271:=func192.trans (congrArg some (by kernel_rfl))
 t0:=underlying0
 a0:=isAgg0
 z0:=sizeOf0
 v0:=zeroValue0
 t3:=underlying3
 a3:=isAgg3
 z3:=sizeOf3
 v3:=zeroValue3
 t4:=underlying4
 a4:=isAgg4
 z4:=sizeOf4
 v4:=zeroValue4
 t5:=underlying5
 a5:=isAgg5
 z5:=sizeOf5
 v5:=zeroValue5
 t9:=underlying9
 a9:=isAgg9
 z9:=sizeOf9
 v9:=zeroValue9
 t21:=underlying21
 a21:=isAgg21
 z21:=sizeOf21
 v21:=zeroValue21
 t46:=underlying189
 a46:=isAgg189
 z46:=sizeOf189
 v46:=zeroValue189
 t105:=underlying264
 a105:=isAgg264
 z105:=sizeOf264
 v105:=zeroValue264
 t116:=underlying224
 a116:=isAgg224
 z116:=sizeOf224
 t117:=underlying225
 a117:=isAgg225
 z117:=sizeOf225
 v117:=zeroValue225
 t119:=underlying305
 a119:=isAgg305
 z119:=sizeOf305
 t124:=underlying228
 a124:=isAgg228
 z124:=sizeOf228
 v124:=zeroValue228
 t138:=underlying307
 a138:=isAgg307
 z138:=sizeOf307
 v138:=zeroValue307
 t139:=underlying308
 a139:=isAgg308
 z139:=sizeOf308
 v139:=zeroValue308
 g3:=by kernel_rfl
 g4:=by kernel_rfl }
def Tryz.lays119_ren:Go.Shelf.Ren:=⟨fun|119=>243|n=>n,fun|21=>21|4=>4|n=>n,fun|n=>n⟩
theorem lays119:Go.Proofs.Lays.n119 Tryz.prog Tryz.lays119_ren:={
 mixed:=by kernel_rfl
 f119:=func243.trans (congrArg some (by kernel_rfl))
 t4:=underlying4
 a4:=isAgg4
 z4:=sizeOf4
 v4:=zeroValue4
 t21:=underlying21
 a21:=isAgg21
 z21:=sizeOf21
 v21:=zeroValue21 }
theorem Tryz.utf8_ValidRune (r:Int) (w:World) :
  Calls Tryz.prog 243 #[.int .i32 r] w fun e w'=>e=.returned (.bool (Lib.validRune r))∧w'=w:=Any.utf8_ValidRune lays119 r w
def Tryz.lays125_ren:Go.Shelf.Ren:=⟨fun|125=>169|128=>209|129=>196|n=>n,fun|46=>189|3=>3|51=>237|53=>133|4=>4|5=>5|9=>9|n=>n,fun|n=>n⟩
theorem lays125:Go.Proofs.Lays.n125 Tryz.prog Tryz.lays125_ren:={
 mixed:=by kernel_rfl
 f125:=func169.trans (congrArg some (by kernel_rfl))
 f128:=func209.trans (congrArg some (by kernel_rfl))
 f129:=func196.trans (congrArg some (by kernel_rfl))
 t3:=underlying3
 a3:=isAgg3
 z3:=sizeOf3
 v3:=zeroValue3
 t4:=underlying4
 a4:=isAgg4
 z4:=sizeOf4
 v4:=zeroValue4
 t5:=underlying5
 a5:=isAgg5
 z5:=sizeOf5
 v5:=zeroValue5
 t9:=underlying9
 a9:=isAgg9
 z9:=sizeOf9
 v9:=zeroValue9
 t46:=underlying189
 a46:=isAgg189
 z46:=sizeOf189
 v46:=zeroValue189
 t51:=underlying237
 a51:=isAgg237
 z51:=sizeOf237
 v51:=zeroValue237
 t53:=underlying133
 a53:=isAgg133
 z53:=sizeOf133
 v53:=zeroValue133 }
theorem Tryz.bits_Len (x:Int) (w:World) (h0:0≤x) (h1:x≤18446744073709551615) :
  Calls Tryz.prog 169 #[.int .u64 x] w fun e w'=>e=.returned (.int .i64 (Lib.bitLen x.toNat))∧w'=w:=Any.bits_Len lays125 x w h0 h1
def Tryz.lays137_ren:Go.Shelf.Ren:=⟨fun|137=>102|217=>154|266=>193|n=>n,fun|9=>9|5=>5|3=>3|n=>n,fun|n=>n⟩
theorem lays137:Go.Proofs.Lays.n137 Tryz.prog Tryz.lays137_ren:={
 mixed:=by kernel_rfl
 f137:=func102.trans (congrArg some (by kernel_rfl))
 f217:=func154.trans (congrArg some (by kernel_rfl))
 f266:=func193.trans (congrArg some (by kernel_rfl))
 t3:=underlying3
 a3:=isAgg3
 z3:=sizeOf3
 v3:=zeroValue3
 t5:=underlying5
 a5:=isAgg5
 z5:=sizeOf5
 v5:=zeroValue5
 t9:=underlying9
 a9:=isAgg9
 z9:=sizeOf9
 v9:=zeroValue9 }
open Go.RowKit in
theorem Tryz.strings_IndexByte (s:ByteArray) (c:Int) (w:World) :
  Calls Tryz.prog 102 #[.string s,.int .u8 c] w fun e w'=>e=.returned (.int .i64 (Lib.indexByte s.data.toList c.toNat.toUInt8))∧w'=w:=Any.strings_IndexByte lays137 s c w
def Tryz.lays172_ren:Go.Shelf.Ren:=⟨fun|172=>186|244=>220|245=>221|247=>238|279=>239|280=>240|281=>241|282=>242|287=>258|316=>259|171=>80|205=>260|321=>267|322=>268|243=>123|246=>174|283=>159|284=>160|285=>161|286=>162|129=>196|317=>195|318=>197|319=>198|320=>199|337=>226|338=>227|n=>n,fun|9=>9|3=>3|75=>129|76=>130|4=>4|5=>5|167=>298|37=>125|0=>0|85=>299|2=>2|168=>301|53=>133|175=>319|46=>189|210=>322|127=>186|145=>331|143=>329|21=>21|171=>232|173=>235|212=>269|51=>237|20=>20|213=>270|232=>309|233=>310|80=>132|n=>n,fun|15=>6|16=>7|17=>0|18=>4|19=>5|n=>n⟩
theorem lays172:Go.Proofs.Lays.n172 Tryz.prog Tryz.lays172_ren:={
 mixed:=by kernel_rfl
 f129:=func196.trans (congrArg some (by kernel_rfl))
 f171:=func80.trans (congrArg some (by kernel_rfl))
 f172:=func186.trans (congrArg some (by kernel_rfl))
 f205:=func260.trans (congrArg some (by kernel_rfl))
 f243:=func123.trans (congrArg some (by kernel_rfl))
 f244:=func220.trans (congrArg some (by kernel_rfl))
 f245:=func221.trans (congrArg some (by kernel_rfl))
 f246:=func174.trans (congrArg some (by kernel_rfl))
 f247:=func238.trans (congrArg some (by kernel_rfl))
 f279:=func239.trans (congrArg some (by kernel_rfl))
 f280:=func240.trans (congrArg some (by kernel_rfl))
 f281:=func241.trans (congrArg some (by kernel_rfl))
 f282:=func242.trans (congrArg some (by kernel_rfl))
 f283:=func159.trans (congrArg some (by kernel_rfl))
 f284:=func160.trans (congrArg some (by kernel_rfl))
 f285:=func161.trans (congrArg some (by kernel_rfl))
 f286:=func162.trans (congrArg some (by kernel_rfl))
 f287:=func258.trans (congrArg some (by kernel_rfl))
 f316:=func259.trans (congrArg some (by kernel_rfl))
 f317:=func195.trans (congrArg some (by kernel_rfl))
 f318:=func197.trans (congrArg some (by kernel_rfl))
 f319:=func198.trans (congrArg some (by kernel_rfl))
 f320:=func199.trans (congrArg some (by kernel_rfl))
 f321:=func267.trans (congrArg some (by kernel_rfl))
 f322:=func268.trans (congrArg some (by kernel_rfl))
 f337:=func226.trans (congrArg some (by kernel_rfl))
 f338:=func227.trans (congrArg some (by kernel_rfl))
 t0:=underlying0
 a0:=isAgg0
 z0:=sizeOf0
 v0:=zeroValue0
 t2:=underlying2
 a2:=isAgg2
 z2:=sizeOf2
 v2:=zeroValue2
 t3:=underlying3
 a3:=isAgg3
 z3:=sizeOf3
 v3:=zeroValue3
 t4:=underlying4
 a4:=isAgg4
 z4:=sizeOf4
 v4:=zeroValue4
 t5:=underlying5
 a5:=isAgg5
 z5:=sizeOf5
 v5:=zeroValue5
 t9:=underlying9
 a9:=isAgg9
 z9:=sizeOf9
 v9:=zeroValue9
 t20:=underlying20
 a20:=isAgg20
 z20:=sizeOf20
 v20:=zeroValue20
 t21:=underlying21
 a21:=isAgg21
 z21:=sizeOf21
 v21:=zeroValue21
 t37:=underlying125
 a37:=isAgg125
 z37:=sizeOf125
 v37:=zeroValue125
 t46:=underlying189
 a46:=isAgg189
 z46:=sizeOf189
 v46:=zeroValue189
 t51:=underlying237
 a51:=isAgg237
 z51:=sizeOf237
 v51:=zeroValue237
 t53:=underlying133
 a53:=isAgg133
 z53:=sizeOf133
 v53:=zeroValue133
 t75:=underlying129
 a75:=isAgg129
 z75:=sizeOf129
 v75:=zeroValue129
 t76:=underlying130
 a76:=isAgg130
 z76:=sizeOf130
 v76:=zeroValue130
 t85:=underlying299
 a85:=isAgg299
 z85:=sizeOf299
 v85:=zeroValue299
 t127:=underlying186
 a127:=isAgg186
 z127:=sizeOf186
 v127:=zeroValue186
 t143:=underlying329
 a143:=isAgg329
 z143:=sizeOf329
 v143:=zeroValue329
 t145:=underlying331
 a145:=isAgg331
 z145:=sizeOf331
 v145:=zeroValue331
 t167:=underlying298
 a167:=isAgg298
 z167:=sizeOf298
 v167:=zeroValue298
 t168:=underlying301
 a168:=isAgg301
 z168:=sizeOf301
 v168:=zeroValue301
 t171:=underlying232
 a171:=isAgg232
 z171:=sizeOf232
 v171:=zeroValue232
 t173:=underlying235
 a173:=isAgg235
 z173:=sizeOf235
 v173:=zeroValue235
 t175:=underlying319
 a175:=isAgg319
 z175:=sizeOf319
 v175:=zeroValue319
 t210:=underlying322
 a210:=isAgg322
 z210:=sizeOf322
 v210:=zeroValue322
 t212:=underlying269
 a212:=isAgg269
 z212:=sizeOf269
 v212:=zeroValue269
 t213:=underlying270
 a213:=isAgg270
 z213:=sizeOf270
 t232:=underlying309
 a232:=isAgg309
 z232:=sizeOf309
 v232:=zeroValue309
 t233:=underlying310
 a233:=isAgg310
 z233:=sizeOf310
 v233:=zeroValue310
 g15:=by kernel_rfl
 g16:=by kernel_rfl
 g17:=by kernel_rfl
 g18:=by kernel_rfl
 g19:=by kernel_rfl }
open Go.RowKit in
theorem Tryz.strconv_Atoi (s:ByteArray) (n:Int) (hl:s.size≤18) (h:Lib.atoi s.data.toList=some n) (w:World) :
  Calls Tryz.prog 186 #[.string s] w fun e w'=>e=.returned (.tuple #[.int .i64 n,.nilIface])∧∃ t,w'=Lib.bytesWorld w 5 t:=Any.strconv_Atoi lays172 s n hl h w
def Tryz.laysM171_ren:Go.Shelf.Ren:=⟨fun|171=>80|243=>123|246=>174|283=>159|284=>160|285=>161|286=>162|129=>196|317=>195|318=>197|319=>198|320=>199|337=>226|338=>227|n=>n,fun|3=>3|9=>9|2=>2|4=>4|171=>232|0=>0|53=>133|37=>125|5=>5|173=>235|212=>269|51=>237|20=>20|213=>270|46=>189|232=>309|233=>310|n=>n,fun|17=>0|18=>4|19=>5|n=>n⟩
theorem Tryz.laysM171:Go.Proofs.LaysM.n171 Tryz.prog Tryz.laysM171_ren:={
 mixed:=by kernel_rfl
 f129:=func196.trans (congrArg some (by kernel_rfl))
 f171:=func80.trans (congrArg some (by kernel_rfl))
 f243:=func123.trans (congrArg some (by kernel_rfl))
 f246:=func174.trans (congrArg some (by kernel_rfl))
 f283:=func159.trans (congrArg some (by kernel_rfl))
 f284:=func160.trans (congrArg some (by kernel_rfl))
 f285:=func161.trans (congrArg some (by kernel_rfl))
 f286:=func162.trans (congrArg some (by kernel_rfl))
 f317:=func195.trans (congrArg some (by kernel_rfl))
 f318:=func197.trans (congrArg some (by kernel_rfl))
 f319:=func198.trans (congrArg some (by kernel_rfl))
 f320:=func199.trans (congrArg some (by kernel_rfl))
 f337:=func226.trans (congrArg some (by kernel_rfl))
 f338:=func227.trans (congrArg some (by kernel_rfl))
 t0:=underlying0
 a0:=isAgg0
 z0:=sizeOf0
 v0:=zeroValue0
 t2:=underlying2
 a2:=isAgg2
 z2:=sizeOf2
 v2:=zeroValue2
 t3:=underlying3
 a3:=isAgg3
 z3:=sizeOf3
 v3:=zeroValue3
 t4:=underlying4
 a4:=isAgg4
 z4:=sizeOf4
 v4:=zeroValue4
 t5:=underlying5
 a5:=isAgg5
 z5:=sizeOf5
 v5:=zeroValue5
 t9:=underlying9
 a9:=isAgg9
 z9:=sizeOf9
 v9:=zeroValue9
 t20:=underlying20
 a20:=isAgg20
 z20:=sizeOf20
 v20:=zeroValue20
 t37:=underlying125
 a37:=isAgg125
 z37:=sizeOf125
 v37:=zeroValue125
 t46:=underlying189
 a46:=isAgg189
 z46:=sizeOf189
 v46:=zeroValue189
 t51:=underlying237
 a51:=isAgg237
 z51:=sizeOf237
 v51:=zeroValue237
 t53:=underlying133
 a53:=isAgg133
 z53:=sizeOf133
 v53:=zeroValue133
 t171:=underlying232
 a171:=isAgg232
 z171:=sizeOf232
 v171:=zeroValue232
 t173:=underlying235
 a173:=isAgg235
 z173:=sizeOf235
 v173:=zeroValue235
 t212:=underlying269
 a212:=isAgg269
 z212:=sizeOf269
 v212:=zeroValue269
 t213:=underlying270
 a213:=isAgg270
 z213:=sizeOf270
 t232:=underlying309
 a232:=isAgg309
 z232:=sizeOf309
 v232:=zeroValue309
 t233:=underlying310
 a233:=isAgg310
 z233:=sizeOf310
 v233:=zeroValue310
 g17:=by kernel_rfl
 g18:=by kernel_rfl
 g19:=by kernel_rfl
 i0:=by kernel_rfl
 i2:=by kernel_rfl
 i3:=by kernel_rfl
 i4:=by kernel_rfl
 i5:=by kernel_rfl
 i9:=by kernel_rfl
 i20:=by kernel_rfl
 i37:=by kernel_rfl
 i46:=by kernel_rfl
 i51:=by kernel_rfl
 i53:=by kernel_rfl
 i171:=by kernel_rfl
 i173:=by kernel_rfl
 i212:=by kernel_rfl
 i232:=by kernel_rfl
 i233:=by kernel_rfl
 m17:=by kernel_rfl
 m18:=by kernel_rfl
 m19:=by kernel_rfl }
open Go.RowKit Go.Sort Go.Lib in
theorem Tryz.strconv_Itoa (n:Int) (h0:-9223372036854775808≤n) (h1:n≤9223372036854775807) (w:World) (htab:Lib.TabIs Tryz.prog w "internal/strconv.uint64pow10" .u64 Lib.pow10Tab) :
  Calls Tryz.prog 80 #[.int .i64 n] w fun e w'=>e=.returned (.string ⟨(Lib.itoa n).toArray⟩)∧∃ k os,w'=grow (w.drewN k) os:=Any.strconv_Itoa Tryz.laysM171 n h0 h1 w htab
def Tryz.lays99_ren:Go.Shelf.Ren:=⟨fun|99=>110|206=>165|n=>n,fun|9=>9|4=>4|3=>3|n=>n,fun|n=>n⟩
theorem lays99:Go.Proofs.Lays.n99 Tryz.prog Tryz.lays99_ren:={
 mixed:=by kernel_rfl
 f99:=func110.trans (congrArg some (by kernel_rfl))
 f206:=func165.trans (congrArg some (by kernel_rfl))
 t3:=underlying3
 a3:=isAgg3
 z3:=sizeOf3
 v3:=zeroValue3
 t4:=underlying4
 a4:=isAgg4
 z4:=sizeOf4
 v4:=zeroValue4
 t9:=underlying9
 a9:=isAgg9
 z9:=sizeOf9
 v9:=zeroValue9 }
open Go.RowKit Go.Lib in
theorem Tryz.strings_HasPrefix (s p:ByteArray) (w:World) :
  Calls Tryz.prog 110 #[.string s,.string p] w fun e w'=>e=.returned (.bool (Lib.hasPrefix s.data.toList p.data.toList))∧w'=w:=Any.strings_HasPrefix lays99 s p w
def Tryz.lays152_ren:Go.Shelf.Ren:=⟨fun|152=>222|137=>102|119=>243|224=>244|225=>245|217=>154|266=>193|n=>n,fun|9=>9|21=>21|3=>3|4=>4|5=>5|0=>0|46=>189|n=>n,fun|n=>n⟩
theorem lays152:Go.Proofs.Lays.n152 Tryz.prog Tryz.lays152_ren:={
 mixed:=by kernel_rfl
 f119:=func243.trans (congrArg some (by kernel_rfl))
 f137:=func102.trans (congrArg some (by kernel_rfl))
 f152:=func222.trans (congrArg some (by kernel_rfl))
 f217:=func154.trans (congrArg some (by kernel_rfl))
 f224:=func244.trans (congrArg some (by kernel_rfl))
 f225:=func245.trans (congrArg some (by kernel_rfl))
 f266:=func193.trans (congrArg some (by kernel_rfl))
 t0:=underlying0
 a0:=isAgg0
 z0:=sizeOf0
 v0:=zeroValue0
 t3:=underlying3
 a3:=isAgg3
 z3:=sizeOf3
 v3:=zeroValue3
 t4:=underlying4
 a4:=isAgg4
 z4:=sizeOf4
 v4:=zeroValue4
 t5:=underlying5
 a5:=isAgg5
 z5:=sizeOf5
 v5:=zeroValue5
 t9:=underlying9
 a9:=isAgg9
 z9:=sizeOf9
 v9:=zeroValue9
 t21:=underlying21
 a21:=isAgg21
 z21:=sizeOf21
 v21:=zeroValue21
 t46:=underlying189
 a46:=isAgg189
 z46:=sizeOf189
 v46:=zeroValue189 }
open Go.RowKit Go.Lib in
theorem Tryz.strings_IndexRune_ascii (s:ByteArray) (r:Int) (w:World) (h0:0≤r) (h1:r<128) :
  Calls Tryz.prog 222 #[.string s,.int .i32 r] w fun e w'=>e=.returned (.int .i64 (Lib.indexByte s.data.toList r.toNat.toUInt8))∧w'=w:=Any.strings_IndexRune_ascii lays152 s r w h0 h1
def Tryz.lays226_ren:Go.Shelf.Ren:=⟨fun|226=>223|n=>n,fun|3=>3|4=>4|n=>n,fun|n=>n⟩
theorem lays226:Go.Proofs.Lays.n226 Tryz.prog Tryz.lays226_ren:={
 mixed:=by kernel_rfl
 f226:=func223.trans (congrArg some (by kernel_rfl))
 t3:=underlying3
 a3:=isAgg3
 z3:=sizeOf3
 v3:=zeroValue3
 t4:=underlying4
 a4:=isAgg4
 z4:=sizeOf4
 v4:=zeroValue4 }
open Go.RowKit Go.Lib in
theorem Tryz.strings_shouldUseASCIISet (n:Int) (w:World) :
  Calls Tryz.prog 223 #[.int .i64 n] w fun e w'=>e=.returned (.bool (decide (8<n)))∧w'=w:=Any.strings_shouldUseASCIISet lays226 n w
def Tryz.lays153_ren:Go.Shelf.Ren:=⟨fun|153=>187|152=>222|226=>223|227=>149|228=>189|137=>102|119=>243|224=>244|225=>245|217=>154|266=>193|n=>n,fun|9=>9|3=>3|4=>4|5=>5|21=>21|117=>225|116=>224|0=>0|46=>189|124=>228|n=>n,fun|n=>n⟩
theorem lays153:Go.Proofs.Lays.n153 Tryz.prog Tryz.lays153_ren:={
 mixed:=by kernel_rfl
 f119:=func243.trans (congrArg some (by kernel_rfl))
 f137:=func102.trans (congrArg some (by kernel_rfl))
 f152:=func222.trans (congrArg some (by kernel_rfl))
 f153:=func187.trans (congrArg some (by kernel_rfl))
 f217:=func154.trans (congrArg some (by kernel_rfl))
 f224:=func244.trans (congrArg some (by kernel_rfl))
 f225:=func245.trans (congrArg some (by kernel_rfl))
 f226:=func223.trans (congrArg some (by kernel_rfl))
 f227:=func149.trans (congrArg some (by kernel_rfl))
 f228:=func189.trans (congrArg some (by kernel_rfl))
 f266:=func193.trans (congrArg some (by kernel_rfl))
 t0:=underlying0
 a0:=isAgg0
 z0:=sizeOf0
 v0:=zeroValue0
 t3:=underlying3
 a3:=isAgg3
 z3:=sizeOf3
 v3:=zeroValue3
 t4:=underlying4
 a4:=isAgg4
 z4:=sizeOf4
 v4:=zeroValue4
 t5:=underlying5
 a5:=isAgg5
 z5:=sizeOf5
 v5:=zeroValue5
 t9:=underlying9
 a9:=isAgg9
 z9:=sizeOf9
 v9:=zeroValue9
 t21:=underlying21
 a21:=isAgg21
 z21:=sizeOf21
 v21:=zeroValue21
 t46:=underlying189
 a46:=isAgg189
 z46:=sizeOf189
 v46:=zeroValue189
 t116:=underlying224
 a116:=isAgg224
 z116:=sizeOf224
 t117:=underlying225
 a117:=isAgg225
 z117:=sizeOf225
 v117:=zeroValue225
 t124:=underlying228
 a124:=isAgg228
 z124:=sizeOf228
 v124:=zeroValue228 }
open Go.RowKit Go.Lib in
theorem Tryz.strings_IndexAny_long (hv116:∀ w,(zeroValue 224).run Tryz.prog w=.ok (.agg (Array.replicate 256 (.bool false))) w) (s chars:ByteArray) (w:World) (h2:2≤chars.size) (h8:8<s.size) (hs:s.size<4294967281) (hcs:chars.size<4294967281) (hascii:∀ (j:Nat) b,chars.data.toList[j]?=some b→b.toNat<128) :
  Calls Tryz.prog 187 #[.string s,.string chars] w fun e w'=>e=.returned (.int .i64 (Lib.indexAny s.data.toList chars.data.toList))∧w'=((w.alloc (.cells (Lib.setCells chars.data.toList) 224)).alloc (.cells (Lib.setCells chars.data.toList) 224)):=Any.strings_IndexAny_long lays153 hv116 (by kernel_rfl) s chars w h2 h8 hs hcs hascii
def Tryz.lays105_ren:Go.Shelf.Ren:=⟨fun|105=>64|212=>109|99=>110|165=>111|166=>59|170=>112|169=>60|263=>163|264=>164|206=>165|240=>107|241=>166|276=>158|277=>200|n=>n,fun|9=>9|3=>3|4=>4|20=>20|0=>0|46=>189|109=>190|5=>5|72=>127|76=>130|51=>237|146=>238|53=>133|148=>240|70=>124|37=>125|75=>129|127=>186|164=>230|80=>132|n=>n,fun|n=>n⟩
theorem lays105:Go.Proofs.Lays.n105 Tryz.prog Tryz.lays105_ren:={
 mixed:=by kernel_rfl
 f99:=func110.trans (congrArg some (by kernel_rfl))
 f105:=func64.trans (congrArg some (by kernel_rfl))
 f165:=func111.trans (congrArg some (by kernel_rfl))
 f166:=func59.trans (congrArg some (by kernel_rfl))
 f169:=func60.trans (congrArg some (by kernel_rfl))
 f170:=func112.trans (congrArg some (by kernel_rfl))
 f206:=func165.trans (congrArg some (by kernel_rfl))
 f212:=func109.trans (congrArg some (by kernel_rfl))
 f240:=func107.trans (congrArg some (by kernel_rfl))
 f241:=func166.trans (congrArg some (by kernel_rfl))
 f263:=func163.trans (congrArg some (by kernel_rfl))
 f264:=func164.trans (congrArg some (by kernel_rfl))
 f276:=func158.trans (congrArg some (by kernel_rfl))
 f277:=func200.trans (congrArg some (by kernel_rfl))
 t0:=underlying0
 a0:=isAgg0
 z0:=sizeOf0
 v0:=zeroValue0
 t3:=underlying3
 a3:=isAgg3
 z3:=sizeOf3
 v3:=zeroValue3
 t4:=underlying4
 a4:=isAgg4
 z4:=sizeOf4
 v4:=zeroValue4
 t5:=underlying5
 a5:=isAgg5
 z5:=sizeOf5
 v5:=zeroValue5
 t9:=underlying9
 a9:=isAgg9
 z9:=sizeOf9
 v9:=zeroValue9
 t20:=underlying20
 a20:=isAgg20
 z20:=sizeOf20
 v20:=zeroValue20
 t37:=underlying125
 a37:=isAgg125
 z37:=sizeOf125
 v37:=zeroValue125
 t46:=underlying189
 a46:=isAgg189
 z46:=sizeOf189
 v46:=zeroValue189
 t51:=underlying237
 a51:=isAgg237
 z51:=sizeOf237
 v51:=zeroValue237
 t53:=underlying133
 a53:=isAgg133
 z53:=sizeOf133
 v53:=zeroValue133
 t70:=underlying124
 a70:=isAgg124
 z70:=sizeOf124
 v70:=zeroValue124
 t72:=underlying127
 a72:=isAgg127
 z72:=sizeOf127
 v72:=zeroValue127
 t75:=underlying129
 a75:=isAgg129
 z75:=sizeOf129
 v75:=zeroValue129
 t76:=underlying130
 a76:=isAgg130
 z76:=sizeOf130
 v76:=zeroValue130
 t109:=underlying190
 a109:=isAgg190
 z109:=sizeOf190
 v109:=zeroValue190
 t127:=underlying186
 a127:=isAgg186
 z127:=sizeOf186
 v127:=zeroValue186
 t146:=underlying238
 a146:=isAgg238
 z146:=sizeOf238
 v146:=zeroValue238
 t148:=underlying240
 a148:=isAgg240
 z148:=sizeOf240
 v148:=zeroValue240
 t164:=underlying230
 a164:=isAgg230
 z164:=sizeOf230
 v164:=zeroValue230 }
theorem Tryz.Builder_Extra_105:Builder.Extra Tryz.prog Tryz.lays105_ren:={
 sizeBuilder:=by kernel_rfl
 liesBuilder:=by kernel_rfl
 t5:=underlying5
 a5:=isAgg5
 z5:=sizeOf5
 v5:=zeroValue5
 infoByte:=by kernel_rfl
 cellsByte:=by kernel_rfl
 sizeByte:=by kernel_rfl
 neB5:=by decide }
open Go.RowKit Go.Lib in
theorem Tryz.strings_Repeat (s:ByteArray) (c:Nat) (w:World) (hc:c≤9223372036854775807) (hlen:s.size*c≤140737488355328) :
  Calls Tryz.prog 64 #[.string s,.int .i64 c] w fun e w'=>e=.returned (.string ⟨(Lib.repeatL s.data.toList c).toArray⟩)∧Below w.heap.size w w':=Any.strings_Repeat lays105 Tryz.Builder_Extra_105 s c w hc hlen
def Tryz.lays260_ren:Go.Shelf.Ren:=⟨fun|260=>224|n=>n,fun|9=>9|21=>21|3=>3|4=>4|5=>5|119=>305|0=>0|46=>189|139=>308|138=>307|n=>n,fun|3=>2|4=>3|n=>n⟩
theorem lays260:Go.Proofs.Lays.n260 Tryz.prog Tryz.lays260_ren:={
 mixed:=by kernel_rfl
 f260:=func224.trans (congrArg some (by kernel_rfl))
 t0:=underlying0
 a0:=isAgg0
 z0:=sizeOf0
 v0:=zeroValue0
 t3:=underlying3
 a3:=isAgg3
 z3:=sizeOf3
 v3:=zeroValue3
 t4:=underlying4
 a4:=isAgg4
 z4:=sizeOf4
 v4:=zeroValue4
 t5:=underlying5
 a5:=isAgg5
 z5:=sizeOf5
 v5:=zeroValue5
 t9:=underlying9
 a9:=isAgg9
 z9:=sizeOf9
 v9:=zeroValue9
 t21:=underlying21
 a21:=isAgg21
 z21:=sizeOf21
 v21:=zeroValue21
 t46:=underlying189
 a46:=isAgg189
 z46:=sizeOf189
 v46:=zeroValue189
 t119:=underlying305
 a119:=isAgg305
 z119:=sizeOf305
 t138:=underlying307
 a138:=isAgg307
 z138:=sizeOf307
 v138:=zeroValue307
 t139:=underlying308
 a139:=isAgg308
 z139:=sizeOf308
 v139:=zeroValue308
 g3:=by kernel_rfl
 g4:=by kernel_rfl }
def Tryz.lays274_ren:Go.Shelf.Ren:=⟨fun|274=>277|n=>n,fun|21=>21|162=>339|160=>340|3=>3|4=>4|46=>189|0=>0|208=>346|51=>237|206=>344|n=>n,fun|n=>n⟩
theorem lays274:Go.Proofs.Lays.n274 Tryz.prog Tryz.lays274_ren:={
 mixed:=by kernel_rfl
 f274:=func277.trans (congrArg some (by kernel_rfl))
 t0:=underlying0
 a0:=isAgg0
 z0:=sizeOf0
 v0:=zeroValue0
 t3:=underlying3
 a3:=isAgg3
 z3:=sizeOf3
 v3:=zeroValue3
 t4:=underlying4
 a4:=isAgg4
 z4:=sizeOf4
 v4:=zeroValue4
 t21:=underlying21
 a21:=isAgg21
 z21:=sizeOf21
 v21:=zeroValue21
 t46:=underlying189
 a46:=isAgg189
 z46:=sizeOf189
 v46:=zeroValue189
 t51:=underlying237
 a51:=isAgg237
 z51:=sizeOf237
 v51:=zeroValue237
 t160:=underlying340
 a160:=isAgg340
 z160:=sizeOf340
 v160:=zeroValue340
 t162:=underlying339
 a162:=isAgg339
 z162:=sizeOf339
 v162:=zeroValue339
 t208:=underlying346
 a208:=isAgg346
 z208:=sizeOf346
 v208:=zeroValue346 }
open Go.RowKit Go.Lib in
theorem Tryz.strings_ToLower_any (s:ByteArray) (w:World) (hs:s.size<35184372088832) (hV:CaseVar 8 caseA w) (hT:Lib.Utf8Tabs 2 3 w) :
  Calls Tryz.prog 248 #[.string s] w fun e w'=>e=.returned (.string ⟨(Lib.toLowerD s.data.toList).toArray⟩)∧Below w.heap.size w w':=Any.strings_ToLower_any lays159 Tryz.Builder_Extra_159 s w hs hV hT
def Tryz.lays107_ren:Go.Shelf.Ren:=⟨fun|107=>219|108=>237|n=>n,fun|28=>29|3=>3|4=>4|0=>0|n=>n,fun|n=>n⟩
theorem lays107:Go.Proofs.Lays.n107 Tryz.prog Tryz.lays107_ren:={
 mixed:=by kernel_rfl
 f107:=func219.trans (congrArg some (by kernel_rfl))
 f108:=func237.trans (congrArg some (by kernel_rfl))
 t0:=underlying0
 a0:=isAgg0
 z0:=sizeOf0
 v0:=zeroValue0
 t3:=underlying3
 a3:=isAgg3
 z3:=sizeOf3
 v3:=zeroValue3
 t4:=underlying4
 a4:=isAgg4
 z4:=sizeOf4
 v4:=zeroValue4
 t28:=underlying29
 a28:=isAgg29
 z28:=sizeOf29
 v28:=zeroValue29 }
open Go.Lib in
theorem Tryz.slices_Contains_int (b off n c:Nat) (zs:List Int) (x:Int) (w:World) (hz:n≤zs.length) (hbig:n≤9223372036854775807) (hc:∀ j,j<zs.length→w.cell? ⟨b,off+j,none⟩=some (.int .i64 (zs.getD j 0))) :
  Calls Tryz.prog 219 #[.slice (some ⟨b,off,none⟩) n c,.int .i64 x] w fun e w'=>e=.returned (.bool ((zs.take n).contains x))∧w'=w:=Any.slices_Contains_int lays107 b off n c zs x w hz hbig hc
def Tryz.lays110_ren:Go.Shelf.Ren:=⟨fun|110=>177|109=>214|n=>n,fun|31=>22|9=>9|4=>4|3=>3|0=>0|n=>n,fun|n=>n⟩
theorem lays110:Go.Proofs.Lays.n110 Tryz.prog Tryz.lays110_ren:={
 mixed:=by kernel_rfl
 f109:=func214.trans (congrArg some (by kernel_rfl))
 f110:=func177.trans (congrArg some (by kernel_rfl))
 t0:=underlying0
 a0:=isAgg0
 z0:=sizeOf0
 v0:=zeroValue0
 t3:=underlying3
 a3:=isAgg3
 z3:=sizeOf3
 v3:=zeroValue3
 t4:=underlying4
 a4:=isAgg4
 z4:=sizeOf4
 v4:=zeroValue4
 t9:=underlying9
 a9:=isAgg9
 z9:=sizeOf9
 v9:=zeroValue9
 t31:=underlying22
 a31:=isAgg22
 z31:=sizeOf22
 v31:=zeroValue22 }
open Go.Lib in
theorem Tryz.slices_Contains_string (b off n c:Nat) (zs:List ByteArray) (x:ByteArray) (w:World) (hz:n≤zs.length) (hbig:n≤9223372036854775807) (hc:∀ j,j<zs.length→w.cell? ⟨b,off+j,none⟩=some (.string (zs.getD j ByteArray.empty))) :
  Calls Tryz.prog 177 #[.slice (some ⟨b,off,none⟩) n c,.string x] w fun e w'=>e=.returned (.bool (Lib.containsS (zs.take n) x))∧w'=w:=Any.slices_Contains_string lays110 b off n c zs x w hz hbig hc
def Tryz.laysNm217_ren:Go.Shelf.Ren:=⟨fun|17=>114|n=>n,fun|24=>22|9=>9|3=>3|4=>4|0=>0|n=>n,fun|n=>n⟩
theorem Tryz.laysNm217:Go.Proofs.Lays2.n17 Tryz.prog Tryz.laysNm217_ren:={
 mixed:=by kernel_rfl
 f17:=func114.trans (congrArg some (by kernel_rfl))
 t0:=underlying0
 a0:=isAgg0
 z0:=sizeOf0
 v0:=zeroValue0
 t3:=underlying3
 a3:=isAgg3
 z3:=sizeOf3
 v3:=zeroValue3
 t4:=underlying4
 a4:=isAgg4
 z4:=sizeOf4
 v4:=zeroValue4
 t9:=underlying9
 a9:=isAgg9
 z9:=sizeOf9
 v9:=zeroValue9
 t24:=underlying22
 a24:=isAgg22
 z24:=sizeOf22
 v24:=zeroValue22 }
open Go.RowKit Go.Lib Go.Sort in
theorem Tryz.slices_Reverse_string_empty (a:Option Addr) (cap:Nat) (w:World) :
  Calls Tryz.prog 114 #[.slice a 0 cap] w fun e w'=>e=.returned (.tuple #[])∧w'=w:=Any.slices_Reverse_string_empty Tryz.laysNm217 a cap w
def Tryz.laysNm216_ren:Go.Shelf.Ren:=⟨fun|16=>34|n=>n,fun|24=>22|9=>9|4=>4|n=>n,fun|n=>n⟩
theorem Tryz.laysNm216:Go.Proofs.Lays2.n16 Tryz.prog Tryz.laysNm216_ren:={
 mixed:=by kernel_rfl
 f16:=func34.trans (congrArg some (by kernel_rfl))
 t4:=underlying4
 a4:=isAgg4
 z4:=sizeOf4
 v4:=zeroValue4
 t9:=underlying9
 a9:=isAgg9
 z9:=sizeOf9
 v9:=zeroValue9
 t24:=underlying22
 a24:=isAgg22
 z24:=sizeOf22
 v24:=zeroValue22
 i9:=by kernel_rfl }
open Go.RowKit Go.Lib in
theorem Tryz.slices_Clone_string (b off n c:Nat) (zs:List ByteArray) (w:World) (hz:n≤zs.length) (hbig:n*16≤140737488355328) (hc:∀ j,j<zs.length→w.cell? ⟨b,off+j,none⟩=some (.string (zs.getD j ByteArray.empty))) :
  Calls Tryz.prog 34 #[.slice (some ⟨b,off,none⟩) n c] w fun e w'=>∃ v',e=.returned v'∧w'.ownsRow w.heap.size 9 1 v' n ((zs.take n).map (Value.string))∧v'≠.slice none 0 0∧Below w.heap.size w w':=Any.slices_Clone_string Tryz.laysNm216 b off n c zs w hz hbig hc
open Go.RowKit Go.Lib in
theorem Tryz.slices_Clone_string_nil (n c:Nat) (w:World) :
  Calls Tryz.prog 34 #[.slice none n c] w fun e w'=>e=.returned (.slice none 0 0)∧w'=w:=Any.slices_Clone_string_nil Tryz.laysNm216 n c w
open Go.RowKit Go.Lib in
theorem Tryz.slices_Clone_string_zero (a:Addr) (c:Nat) (w:World) :
  Calls Tryz.prog 34 #[.slice (some a) 0 c] w fun e w'=>∃ v',e=.returned v'∧w'.ownsRow w.heap.size 9 1 v' 0 []∧v'≠.slice none 0 0∧Below w.heap.size w w':=Any.slices_Clone_string_zero Tryz.laysNm216 a c w
open Go.RowKit Go.Lib Go.Sort in
theorem Tryz.slices_Reverse_string_cells (b off n c:Nat) (Sx:Nat→ByteArray) (w:World) (hbig:n≤9223372036854775807) (hc:∀ i,i<n→w.cell? ⟨b,off+i,none⟩=some (.string (Sx i))) (hf:∀ j,j<n→w.frozen? ⟨b,off+j,none⟩=false) :
  Calls Tryz.prog 114 #[.slice (some ⟨b,off,none⟩) n c] w fun e w'=>e=.returned (.tuple #[])∧∃ q,w'=(w.drewN q).setCells b off ((Lib.strsOf Sx n).reverse.map encStr):=Any.slices_Reverse_string_cells Tryz.laysNm217 b off n c Sx w hbig hc hf
end Go.Proofs

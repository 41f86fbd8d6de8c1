/-
  ChainOthers: the proof, part 2 of 16.
-/
import Derived.Test.YtjaeapaeaiiieaaGreatDoorP00
import Derived.Shelf.Strings.Builder1
import Derived.Shelf.Strings.Builder2
import Derived.Shelf.Strings.OnBuilder
import Derived.Shelf.Strings.Trim
import Derived.Shelf.Small.Utf8
import Derived.Shelf.Small.Bits
import Derived.Shelf.Small.Strs
import Derived.Shelf.Small.Wraps
import Derived.Shelf.Strings.BuilderF
import Derived.Shelf.Strings.BuilderK
import Derived.Shelf.Strings.BuilderRune
import Derived.Shelf.Strconv.Atoi
import Derived.Shelf.Strconv.Itoa0
import Derived.Shelf.Strconv.Itoa1
import Derived.Shelf.LaysM
import Derived.Shelf.Strconv.Itoa2
import Derived.Shelf.Strconv.Itoa3
import Derived.Shelf.Strconv.AtoiErrFast
import Derived.Shelf.Strconv.ParseIntEmpty
import Derived.Shelf.Strconv.AtoiFail
import Derived.Shelf.Strconv.Clone
import Derived.Shelf.Strconv.SyntaxError
import Derived.Shelf.LaysC
import Derived.Shelf.Strconv.ToError
import Derived.Shelf.Strconv.Lower
import Derived.Shelf.Strconv.ParseUint10
import Derived.Shelf.Strconv.ParseUint10Empty
import Derived.Shelf.Strconv.ParseUint10Any
import Derived.Shelf.Strconv.ParseInt10
import Derived.Shelf.Strconv.AtoiLong
import Derived.Shelf.Strconv.AtoiInnerAll
import Derived.Shelf.Strconv.RangeError
import Derived.Shelf.Strconv.ToErrorRange
import Derived.Shelf.Strconv.AtoiAll
import Derived.Shelf.Strconv.ErrVarAll
import Derived.Shelf.Strings.Search1
import Derived.Shelf.Strings.Prefix
import Derived.Shelf.Unicode.Latin
import Derived.Shelf.Strings.Runes
import Derived.Shelf.Strings.IndexAny
import Derived.Shelf.Strings.AsciiSet
import Derived.Shelf.Strings.IndexAnyAll
import Derived.Shelf.Bits.Mul64
import Derived.Shelf.Strings.Repeat
import Derived.Shelf.Unicode.DecodeSlow
import Derived.Shelf.Unicode.DecodeAny
import Derived.Shelf.Unicode.CaseLookup
import Derived.Shelf.Unicode.CaseConvert
import Derived.Shelf.Unicode.CaseTo
import Derived.Shelf.Unicode.CaseLaid
import Derived.Shelf.Strings.MapAny
import Derived.Shelf.Strings.CaseAny
import Derived.Shelf.Slices.Turned
import Derived.Ground.Names2Prog
import Derived.Shelf.Slices.ReverseS
import Derived.Shelf.Slices.Clone
import Derived.Shelf.Slices.SearchI
import Derived.Shelf.Slices.Cells
import Derived.Ground.SlgnProg
import Derived.Shelf.SlicesE.Clone
import Derived.Ground.SlgmProg
import Derived.Shelf.SortM.Plain
import Derived.Shelf.SortM.SortNone
import Derived.Test.YtjaeapaeaiiieaaGreatDoorProg
set_option linter.unusedSimpArgs false
set_option linter.unusedVariables false
set_option maxHeartbeats 40000000
set_option maxRecDepth 100000
namespace Go.Proofs
section
open Go.Proofs.Tryz Go.Shelf
def Tryz.lays169_ren:Go.Shelf.Ren:=⟨fun|169=>65|n=>n,fun|70=>128|9=>9|0=>0|72=>131|37=>129|127=>189|3=>3|5=>5|n=>n,fun|n=>n⟩
theorem lays169:Go.Proofs.Lays.n169 prog Tryz.lays169_ren:={
 mixed:=by kernel_rfl
 f169:=func65.trans (congrArg some (by kernel_rfl))
 t0:=underlying0
 a0:=isAgg0
 z0:=sizeOf0
 v0:=zeroValue0
 t3:=underlying3
 a3:=isAgg3
 z3:=sizeOf3
 v3:=zeroValue3
 t9:=underlying9
 a9:=isAgg9
 z9:=sizeOf9
 v9:=zeroValue9
 t37:=underlying129
 a37:=isAgg129
 z37:=sizeOf129
 v37:=zeroValue129
 t70:=underlying128
 a70:=isAgg128
 z70:=sizeOf128
 v70:=zeroValue128
 t72:=underlying131
 a72:=isAgg131
 z72:=sizeOf131
 v72:=zeroValue131
 t127:=underlying189
 a127:=isAgg189
 z127:=sizeOf189
 v127:=zeroValue189 }
theorem Tryz.Builder_Extra_169:Builder.Extra prog Tryz.lays169_ren:={
 sizeBuilder:=by kernel_rfl
 liesBuilder:=by kernel_rfl
 t5:=underlying5
 a5:=isAgg5
 z5:=sizeOf5
 v5:=zeroValue5
 infoByte:=by kernel_rfl
 cellsByte:=by kernel_rfl
 sizeByte:=by kernel_rfl
 neB5:=by decide }
open Go.RowKit in
theorem Tryz.Builder_String_any (B b:Nat) (l:List UInt8) (w:World) (h:Lib.IsBuilder 131 5 B b (Lib.byteCells l) w) (hBw:B≤w.heap.size) :
  Calls prog 65 #[.pointer (some ⟨b,0,none⟩)] w fun e w'=>e=.returned (.string ⟨l.toArray⟩)∧Below B w w':=Any.Builder_String_any lays169 Tryz.Builder_Extra_169 B b l w h hBw
def Tryz.lays159_ren:Go.Shelf.Ren:=⟨fun|159=>262|165=>114|166=>64|167=>103|169=>65|230=>275|204=>276|240=>110|241=>171|197=>200|118=>283|168=>284|270=>285|262=>286|276=>163|277=>209|260=>237|242=>288|313=>289|278=>290|274=>291|275=>292|n=>n,fun|9=>9|4=>4|3=>3|5=>5|72=>131|0=>0|76=>134|75=>133|107=>334|70=>128|20=>20|37=>129|127=>189|21=>21|105=>272|164=>231|162=>348|203=>346|119=>314|46=>185|139=>317|138=>316|51=>238|160=>349|208=>355|206=>353|80=>136|n=>n,fun|13=>8|3=>2|4=>3|n=>n⟩
theorem lays159:Go.Proofs.Lays.n159 prog Tryz.lays159_ren:={
 mixed:=by kernel_rfl
 f118:=func283.trans (congrArg some (by kernel_rfl))
 f159:=func262.trans (congrArg some (by kernel_rfl))
 f165:=func114.trans (congrArg some (by kernel_rfl))
 f166:=func64.trans (congrArg some (by kernel_rfl))
 f167:=func103.trans (congrArg some (by kernel_rfl))
 f168:=func284.trans (congrArg some (by kernel_rfl))
 f169:=func65.trans (congrArg some (by kernel_rfl))
 f197:=func200.trans (congrArg some (by kernel_rfl))
 f204:=func276.trans (congrArg some (by kernel_rfl))
 f230:=func275.trans (congrArg some (by kernel_rfl))
 f240:=func110.trans (congrArg some (by kernel_rfl))
 f241:=func171.trans (congrArg some (by kernel_rfl))
 f242:=func288.trans (congrArg some (by kernel_rfl))
 f260:=func237.trans (congrArg some (by kernel_rfl))
 f262:=func286.trans (congrArg some (by kernel_rfl))
 f270:=func285.trans (congrArg some (by kernel_rfl))
 f274:=func291.trans (congrArg some (by kernel_rfl))
 f275:=func292.trans (congrArg some (by kernel_rfl))
 f276:=func163.trans (congrArg some (by kernel_rfl))
 f277:=func209.trans (congrArg some (by kernel_rfl))
 f278:=func290.trans (congrArg some (by kernel_rfl))
 f313:=func289.trans (congrArg some (by kernel_rfl))
 t0:=underlying0
 a0:=isAgg0
 z0:=sizeOf0
 v0:=zeroValue0
 t3:=underlying3
 a3:=isAgg3
 z3:=sizeOf3
 v3:=zeroValue3
 t4:=underlying4
 a4:=isAgg4
 z4:=sizeOf4
 v4:=zeroValue4
 t5:=underlying5
 a5:=isAgg5
 z5:=sizeOf5
 v5:=zeroValue5
 t9:=underlying9
 a9:=isAgg9
 z9:=sizeOf9
 v9:=zeroValue9
 t20:=underlying20
 a20:=isAgg20
 z20:=sizeOf20
 v20:=zeroValue20
 t21:=underlying21
 a21:=isAgg21
 z21:=sizeOf21
 v21:=zeroValue21
 t37:=underlying129
 a37:=isAgg129
 z37:=sizeOf129
 v37:=zeroValue129
 t46:=underlying185
 a46:=isAgg185
 z46:=sizeOf185
 v46:=zeroValue185
 t51:=underlying238
 a51:=isAgg238
 z51:=sizeOf238
 v51:=zeroValue238
 t70:=underlying128
 a70:=isAgg128
 z70:=sizeOf128
 v70:=zeroValue128
 t72:=underlying131
 a72:=isAgg131
 z72:=sizeOf131
 v72:=zeroValue131
 t75:=underlying133
 a75:=isAgg133
 z75:=sizeOf133
 v75:=zeroValue133
 t76:=underlying134
 a76:=isAgg134
 z76:=sizeOf134
 v76:=zeroValue134
 t105:=underlying272
 a105:=isAgg272
 z105:=sizeOf272
 v105:=zeroValue272
 t107:=underlying334
 a107:=isAgg334
 z107:=sizeOf334
 v107:=zeroValue334
 t119:=underlying314
 a119:=isAgg314
 z119:=sizeOf314
 t127:=underlying189
 a127:=isAgg189
 z127:=sizeOf189
 v127:=zeroValue189
 t138:=underlying316
 a138:=isAgg316
 z138:=sizeOf316
 v138:=zeroValue316
 t139:=underlying317
 a139:=isAgg317
 z139:=sizeOf317
 v139:=zeroValue317
 t160:=underlying349
 a160:=isAgg349
 z160:=sizeOf349
 v160:=zeroValue349
 t162:=underlying348
 a162:=isAgg348
 z162:=sizeOf348
 v162:=zeroValue348
 t164:=underlying231
 a164:=isAgg231
 z164:=sizeOf231
 v164:=zeroValue231
 t203:=underlying346
 a203:=isAgg346
 z203:=sizeOf346
 v203:=zeroValue346
 t206:=underlying353
 a206:=isAgg353
 z206:=sizeOf353
 v206:=zeroValue353
 t208:=underlying355
 a208:=isAgg355
 z208:=sizeOf355
 v208:=zeroValue355
 g3:=by kernel_rfl
 g4:=by kernel_rfl
 g13:=by kernel_rfl }
theorem Tryz.Builder_Extra_159:Builder.Extra prog Tryz.lays159_ren:={
 sizeBuilder:=by kernel_rfl
 liesBuilder:=by kernel_rfl
 t5:=underlying5
 a5:=isAgg5
 z5:=sizeOf5
 v5:=zeroValue5
 infoByte:=by kernel_rfl
 cellsByte:=by kernel_rfl
 sizeByte:=by kernel_rfl
 neB5:=by decide }
def Tryz.lays156_ren:Go.Shelf.Ren:=⟨fun|156=>81|165=>114|166=>64|169=>65|240=>110|241=>171|276=>163|277=>209|n=>n,fun|31=>22|9=>9|3=>3|4=>4|0=>0|20=>20|72=>131|76=>134|70=>128|37=>129|75=>133|127=>189|164=>231|5=>5|80=>136|n=>n,fun|n=>n⟩
theorem lays156:Go.Proofs.Lays.n156 prog Tryz.lays156_ren:={
 mixed:=by kernel_rfl
 f156:=func81.trans (congrArg some (by kernel_rfl))
 f165:=func114.trans (congrArg some (by kernel_rfl))
 f166:=func64.trans (congrArg some (by kernel_rfl))
 f169:=func65.trans (congrArg some (by kernel_rfl))
 f240:=func110.trans (congrArg some (by kernel_rfl))
 f241:=func171.trans (congrArg some (by kernel_rfl))
 f276:=func163.trans (congrArg some (by kernel_rfl))
 f277:=func209.trans (congrArg some (by kernel_rfl))
 t0:=underlying0
 a0:=isAgg0
 z0:=sizeOf0
 v0:=zeroValue0
 t3:=underlying3
 a3:=isAgg3
 z3:=sizeOf3
 v3:=zeroValue3
 t4:=underlying4
 a4:=isAgg4
 z4:=sizeOf4
 v4:=zeroValue4
 t9:=underlying9
 a9:=isAgg9
 z9:=sizeOf9
 v9:=zeroValue9
 t20:=underlying20
 a20:=isAgg20
 z20:=sizeOf20
 v20:=zeroValue20
 t31:=underlying22
 a31:=isAgg22
 z31:=sizeOf22
 v31:=zeroValue22
 t37:=underlying129
 a37:=isAgg129
 z37:=sizeOf129
 v37:=zeroValue129
 t70:=underlying128
 a70:=isAgg128
 z70:=sizeOf128
 v70:=zeroValue128
 t72:=underlying131
 a72:=isAgg131
 z72:=sizeOf131
 v72:=zeroValue131
 t75:=underlying133
 a75:=isAgg133
 z75:=sizeOf133
 v75:=zeroValue133
 t76:=underlying134
 a76:=isAgg134
 z76:=sizeOf134
 v76:=zeroValue134
 t127:=underlying189
 a127:=isAgg189
 z127:=sizeOf189
 v127:=zeroValue189
 t164:=underlying231
 a164:=isAgg231
 z164:=sizeOf231
 v164:=zeroValue231 }
theorem Tryz.Builder_Extra_156:Builder.Extra prog Tryz.lays156_ren:={
 sizeBuilder:=by kernel_rfl
 liesBuilder:=by kernel_rfl
 t5:=underlying5
 a5:=isAgg5
 z5:=sizeOf5
 v5:=zeroValue5
 infoByte:=by kernel_rfl
 cellsByte:=by kernel_rfl
 sizeByte:=by kernel_rfl
 neB5:=by decide }
open Go.RowKit in
theorem Tryz.strings_Join_none (a:Option Addr) (c:Nat) (sep:ByteArray) (w:World) :
  Calls prog 81 #[.slice a 0 c,.string sep] w fun e w'=>e=.returned (.string ⟨#[]⟩)∧w'=w:=Any.strings_Join_none lays156 Tryz.Builder_Extra_156 a c sep w
open Go.RowKit in
theorem Tryz.strings_Join (bk o c:Nat) (xs:List ByteArray) (sep:ByteArray) (w:World) (hcells:∀ (j:Nat) x,xs[j]?=some x→w.cell? ⟨bk,o+j,none⟩=some (.string x)) (hbk:bk<w.heap.size) (hN:xs.length≤140737488355328) (hcap:xs.length≤c) (hlen:(Lib.join (xs.map (·.data.toList)) sep.data.toList).length≤140737488355328) :
  Calls prog 81 #[.slice (some ⟨bk,o,none⟩) xs.length c,.string sep] w fun e w'=>e=.returned (.string ⟨(Lib.join (xs.map (·.data.toList)) sep.data.toList).toArray⟩)∧Below w.heap.size w w':=Any.strings_Join lays156 Tryz.Builder_Extra_156 bk o c xs sep w hcells hbk hN hcap hlen
def Tryz.lays160_ren:Go.Shelf.Ren:=⟨fun|160=>106|232=>156|231=>155|227=>157|234=>159|233=>158|236=>161|235=>160|228=>199|271=>202|151=>201|197=>200|120=>238|152=>234|260=>237|137=>108|119=>257|224=>258|225=>259|217=>162|266=>203|n=>n,fun|9=>9|4=>4|3=>3|5=>5|117=>227|116=>226|0=>0|124=>230|21=>21|105=>272|46=>185|119=>314|139=>317|138=>316|n=>n,fun|3=>2|4=>3|n=>n⟩
theorem lays160:Go.Proofs.Lays.n160 prog Tryz.lays160_ren:={
 mixed:=by kernel_rfl
 f119:=func257.trans (congrArg some (by kernel_rfl))
 f120:=func238.trans (congrArg some (by kernel_rfl))
 f137:=func108.trans (congrArg some (by kernel_rfl))
 f151:=func201.trans (congrArg some (by kernel_rfl))
 f152:=func234.trans (congrArg some (by kernel_rfl))
 f160:=func106.trans (congrArg some (by kernel_rfl))
 f197:=func200.trans (congrArg some (by kernel_rfl))
 f217:=func162.trans (congrArg some (by kernel_rfl))
 f224:=func258.trans (congrArg some (by kernel_rfl))
 f225:=func259.trans (congrArg some (by kernel_rfl))
 f227:=func157.trans (congrArg some (by kernel_rfl))
 f228:=func199.trans (congrArg some (by kernel_rfl))
 f231:=func155.trans (congrArg some (by kernel_rfl))
 f232:=func156.trans (congrArg some (by kernel_rfl))
 f233:=func158.trans (congrArg some (by kernel_rfl))
 f234:=func159.trans (congrArg some (by kernel_rfl))
 f235:=func160.trans (congrArg some (by kernel_rfl))
 f236:=func161.trans (congrArg some (by kernel_rfl))
 f260:=func237.trans (congrArg some (by kernel_rfl))
 f266:=func203.trans (congrArg some (by kernel_rfl))
 f271:=func202.trans (congrArg some (by kernel_rfl))
 t0:=underlying0
 a0:=isAgg0
 z0:=sizeOf0
 v0:=zeroValue0
 t3:=underlying3
 a3:=isAgg3
 z3:=sizeOf3
 v3:=zeroValue3
 t4:=underlying4
 a4:=isAgg4
 z4:=sizeOf4
 v4:=zeroValue4
 t5:=underlying5
 a5:=isAgg5
 z5:=sizeOf5
 v5:=zeroValue5
 t9:=underlying9
 a9:=isAgg9
 z9:=sizeOf9
 v9:=zeroValue9
 t21:=underlying21
 a21:=isAgg21
 z21:=sizeOf21
 v21:=zeroValue21
 t46:=underlying185
 a46:=isAgg185
 z46:=sizeOf185
 v46:=zeroValue185
 t105:=underlying272
 a105:=isAgg272
 z105:=sizeOf272
 v105:=zeroValue272
 t116:=underlying226
 a116:=isAgg226
 z116:=sizeOf226
 t117:=underlying227
 a117:=isAgg227
 z117:=sizeOf227
 v117:=zeroValue227
 t119:=underlying314
 a119:=isAgg314
 z119:=sizeOf314
 t124:=underlying230
 a124:=isAgg230
 z124:=sizeOf230
 v124:=zeroValue230
 t138:=underlying316
 a138:=isAgg316
 z138:=sizeOf316
 v138:=zeroValue316
 t139:=underlying317
 a139:=isAgg317
 z139:=sizeOf317
 v139:=zeroValue317
 g3:=by kernel_rfl
 g4:=by kernel_rfl }
def Tryz.lays119_ren:Go.Shelf.Ren:=⟨fun|119=>257|n=>n,fun|21=>21|4=>4|n=>n,fun|n=>n⟩
theorem lays119:Go.Proofs.Lays.n119 prog Tryz.lays119_ren:={
 mixed:=by kernel_rfl
 f119:=func257.trans (congrArg some (by kernel_rfl))
 t4:=underlying4
 a4:=isAgg4
 z4:=sizeOf4
 v4:=zeroValue4
 t21:=underlying21
 a21:=isAgg21
 z21:=sizeOf21
 v21:=zeroValue21 }
theorem Tryz.utf8_ValidRune (r:Int) (w:World) :
  Calls prog 257 #[.int .i32 r] w fun e w'=>e=.returned (.bool (Lib.validRune r))∧w'=w:=Any.utf8_ValidRune lays119 r w
def Tryz.lays125_ren:Go.Shelf.Ren:=⟨fun|125=>178|128=>221|129=>205|n=>n,fun|46=>185|3=>3|51=>238|53=>137|4=>4|5=>5|9=>9|n=>n,fun|n=>n⟩
theorem lays125:Go.Proofs.Lays.n125 prog Tryz.lays125_ren:={
 mixed:=by kernel_rfl
 f125:=func178.trans (congrArg some (by kernel_rfl))
 f128:=func221.trans (congrArg some (by kernel_rfl))
 f129:=func205.trans (congrArg some (by kernel_rfl))
 t3:=underlying3
 a3:=isAgg3
 z3:=sizeOf3
 v3:=zeroValue3
 t4:=underlying4
 a4:=isAgg4
 z4:=sizeOf4
 v4:=zeroValue4
 t5:=underlying5
 a5:=isAgg5
 z5:=sizeOf5
 v5:=zeroValue5
 t9:=underlying9
 a9:=isAgg9
 z9:=sizeOf9
 v9:=zeroValue9
 t46:=underlying185
 a46:=isAgg185
 z46:=sizeOf185
 v46:=zeroValue185
 t51:=underlying238
 a51:=isAgg238
 z51:=sizeOf238
 v51:=zeroValue238
 t53:=underlying137
 a53:=isAgg137
 z53:=sizeOf137
 v53:=zeroValue137 }
theorem Tryz.bits_Len (x:Int) (w:World) (h0:0≤x) (h1:x≤18446744073709551615) :
  Calls prog 178 #[.int .u64 x] w fun e w'=>e=.returned (.int .i64 (Lib.bitLen x.toNat))∧w'=w:=Any.bits_Len lays125 x w h0 h1
def Tryz.lays137_ren:Go.Shelf.Ren:=⟨fun|137=>108|217=>162|266=>203|n=>n,fun|9=>9|5=>5|3=>3|n=>n,fun|n=>n⟩
theorem lays137:Go.Proofs.Lays.n137 prog Tryz.lays137_ren:={
 mixed:=by kernel_rfl
 f137:=func108.trans (congrArg some (by kernel_rfl))
 f217:=func162.trans (congrArg some (by kernel_rfl))
 f266:=func203.trans (congrArg some (by kernel_rfl))
 t3:=underlying3
 a3:=isAgg3
 z3:=sizeOf3
 v3:=zeroValue3
 t5:=underlying5
 a5:=isAgg5
 z5:=sizeOf5
 v5:=zeroValue5
 t9:=underlying9
 a9:=isAgg9
 z9:=sizeOf9
 v9:=zeroValue9 }
open Go.RowKit in
theorem Tryz.strings_IndexByte (s:ByteArray) (c:Int) (w:World) :
  Calls prog 108 #[.string s,.int .u8 c] w fun e w'=>e=.returned (.int .i64 (Lib.indexByte s.data.toList c.toNat.toUInt8))∧w'=w:=Any.strings_IndexByte lays137 s c w
def Tryz.lays172_ren:Go.Shelf.Ren:=⟨fun|172=>195|244=>232|245=>233|247=>252|279=>253|280=>254|281=>255|282=>256|287=>272|316=>273|171=>79|205=>274|321=>281|322=>282|243=>127|246=>183|283=>164|284=>165|285=>166|286=>167|129=>205|317=>204|318=>206|319=>207|320=>208|337=>239|338=>240|n=>n,fun|9=>9|3=>3|75=>133|76=>134|4=>4|5=>5|167=>307|37=>129|0=>0|85=>308|2=>2|168=>310|53=>137|175=>328|46=>185|210=>331|127=>189|145=>340|143=>338|21=>21|171=>233|173=>236|212=>276|51=>238|20=>20|213=>277|232=>318|233=>319|80=>136|n=>n,fun|15=>6|16=>7|17=>0|18=>4|19=>5|n=>n⟩
theorem lays172:Go.Proofs.Lays.n172 prog Tryz.lays172_ren:={
 mixed:=by kernel_rfl
 f129:=func205.trans (congrArg some (by kernel_rfl))
 f171:=func79.trans (congrArg some (by kernel_rfl))
 f172:=func195.trans (congrArg some (by kernel_rfl))
 f205:=func274.trans (congrArg some (by kernel_rfl))
 f243:=func127.trans (congrArg some (by kernel_rfl))
 f244:=func232.trans (congrArg some (by kernel_rfl))
 f245:=func233.trans (congrArg some (by kernel_rfl))
 f246:=func183.trans (congrArg some (by kernel_rfl))
 f247:=func252.trans (congrArg some (by kernel_rfl))
 f279:=func253.trans (congrArg some (by kernel_rfl))
 f280:=func254.trans (congrArg some (by kernel_rfl))
 f281:=func255.trans (congrArg some (by kernel_rfl))
 f282:=func256.trans (congrArg some (by kernel_rfl))
 f283:=func164.trans (congrArg some (by kernel_rfl))
 f284:=func165.trans (congrArg some (by kernel_rfl))
 f285:=func166.trans (congrArg some (by kernel_rfl))
 f286:=func167.trans (congrArg some (by kernel_rfl))
 f287:=func272.trans (congrArg some (by kernel_rfl))
 f316:=func273.trans (congrArg some (by kernel_rfl))
 f317:=func204.trans (congrArg some (by kernel_rfl))
 f318:=func206.trans (congrArg some (by kernel_rfl))
 f319:=func207.trans (congrArg some (by kernel_rfl))
 f320:=func208.trans (congrArg some (by kernel_rfl))
 f321:=func281.trans (congrArg some (by kernel_rfl))
 f322:=func282.trans (congrArg some (by kernel_rfl))
 f337:=func239.trans (congrArg some (by kernel_rfl))
 f338:=func240.trans (congrArg some (by kernel_rfl))
 t0:=underlying0
 a0:=isAgg0
 z0:=sizeOf0
 v0:=zeroValue0
 t2:=underlying2
 a2:=isAgg2
 z2:=sizeOf2
 v2:=zeroValue2
 t3:=underlying3
 a3:=isAgg3
 z3:=sizeOf3
 v3:=zeroValue3
 t4:=underlying4
 a4:=isAgg4
 z4:=sizeOf4
 v4:=zeroValue4
 t5:=underlying5
 a5:=isAgg5
 z5:=sizeOf5
 v5:=zeroValue5
 t9:=underlying9
 a9:=isAgg9
 z9:=sizeOf9
 v9:=zeroValue9
 t20:=underlying20
 a20:=isAgg20
 z20:=sizeOf20
 v20:=zeroValue20
 t21:=underlying21
 a21:=isAgg21
 z21:=sizeOf21
 v21:=zeroValue21
 t37:=underlying129
 a37:=isAgg129
 z37:=sizeOf129
 v37:=zeroValue129
 t46:=underlying185
 a46:=isAgg185
 z46:=sizeOf185
 v46:=zeroValue185
 t51:=underlying238
 a51:=isAgg238
 z51:=sizeOf238
 v51:=zeroValue238
 t53:=underlying137
 a53:=isAgg137
 z53:=sizeOf137
 v53:=zeroValue137
 t75:=underlying133
 a75:=isAgg133
 z75:=sizeOf133
 v75:=zeroValue133
 t76:=underlying134
 a76:=isAgg134
 z76:=sizeOf134
 v76:=zeroValue134
 t85:=underlying308
 a85:=isAgg308
 z85:=sizeOf308
 v85:=zeroValue308
 t127:=underlying189
 a127:=isAgg189
 z127:=sizeOf189
 v127:=zeroValue189
 t143:=underlying338
 a143:=isAgg338
 z143:=sizeOf338
 v143:=zeroValue338
 t145:=underlying340
 a145:=isAgg340
 z145:=sizeOf340
 v145:=zeroValue340
 t167:=underlying307
 a167:=isAgg307
 z167:=sizeOf307
 v167:=zeroValue307
 t168:=underlying310
 a168:=isAgg310
 z168:=sizeOf310
 v168:=zeroValue310
 t171:=underlying233
 a171:=isAgg233
 z171:=sizeOf233
 v171:=zeroValue233
 t173:=underlying236
 a173:=isAgg236
 z173:=sizeOf236
 v173:=zeroValue236
 t175:=underlying328
 a175:=isAgg328
 z175:=sizeOf328
 v175:=zeroValue328
 t210:=underlying331
 a210:=isAgg331
 z210:=sizeOf331
 v210:=zeroValue331
 t212:=underlying276
 a212:=isAgg276
 z212:=sizeOf276
 v212:=zeroValue276
 t213:=underlying277
 a213:=isAgg277
 z213:=sizeOf277
 t232:=underlying318
 a232:=isAgg318
 z232:=sizeOf318
 v232:=zeroValue318
 t233:=underlying319
 a233:=isAgg319
 z233:=sizeOf319
 v233:=zeroValue319
 g15:=by kernel_rfl
 g16:=by kernel_rfl
 g17:=by kernel_rfl
 g18:=by kernel_rfl
 g19:=by kernel_rfl }
open Go.RowKit in
theorem Tryz.strconv_Atoi (s:ByteArray) (n:Int) (hl:s.size≤18) (h:Lib.atoi s.data.toList=some n) (w:World) :
  Calls prog 195 #[.string s] w fun e w'=>e=.returned (.tuple #[.int .i64 n,.nilIface])∧∃ t,w'=Lib.bytesWorld w 5 t:=Any.strconv_Atoi lays172 s n hl h w
def Tryz.laysM171_ren:Go.Shelf.Ren:=⟨fun|171=>79|243=>127|246=>183|283=>164|284=>165|285=>166|286=>167|129=>205|317=>204|318=>206|319=>207|320=>208|337=>239|338=>240|n=>n,fun|3=>3|9=>9|2=>2|4=>4|171=>233|0=>0|53=>137|37=>129|5=>5|173=>236|212=>276|51=>238|20=>20|213=>277|46=>185|232=>318|233=>319|n=>n,fun|17=>0|18=>4|19=>5|n=>n⟩
theorem Tryz.laysM171:Go.Proofs.LaysM.n171 prog Tryz.laysM171_ren:={
 mixed:=by kernel_rfl
 f129:=func205.trans (congrArg some (by kernel_rfl))
 f171:=func79.trans (congrArg some (by kernel_rfl))
 f243:=func127.trans (congrArg some (by kernel_rfl))
 f246:=func183.trans (congrArg some (by kernel_rfl))
 f283:=func164.trans (congrArg some (by kernel_rfl))
 f284:=func165.trans (congrArg some (by kernel_rfl))
 f285:=func166.trans (congrArg some (by kernel_rfl))
 f286:=func167.trans (congrArg some (by kernel_rfl))
 f317:=func204.trans (congrArg some (by kernel_rfl))
 f318:=func206.trans (congrArg some (by kernel_rfl))
 f319:=func207.trans (congrArg some (by kernel_rfl))
 f320:=func208.trans (congrArg some (by kernel_rfl))
 f337:=func239.trans (congrArg some (by kernel_rfl))
 f338:=func240.trans (congrArg some (by kernel_rfl))
 t0:=underlying0
 a0:=isAgg0
 z0:=sizeOf0
 v0:=zeroValue0
 t2:=underlying2
 a2:=isAgg2
 z2:=sizeOf2
 v2:=zeroValue2
 t3:=underlying3
 a3:=isAgg3
 z3:=sizeOf3
 v3:=zeroValue3
 t4:=underlying4
 a4:=isAgg4
 z4:=sizeOf4
 v4:=zeroValue4
 t5:=underlying5
 a5:=isAgg5
 z5:=sizeOf5
 v5:=zeroValue5
 t9:=underlying9
 a9:=isAgg9
 z9:=sizeOf9
 v9:=zeroValue9
 t20:=underlying20
 a20:=isAgg20
 z20:=sizeOf20
 v20:=zeroValue20
 t37:=underlying129
 a37:=isAgg129
 z37:=sizeOf129
 v37:=zeroValue129
 t46:=underlying185
 a46:=isAgg185
 z46:=sizeOf185
 v46:=zeroValue185
 t51:=underlying238
 a51:=isAgg238
 z51:=sizeOf238
 v51:=zeroValue238
 t53:=underlying137
 a53:=isAgg137
 z53:=sizeOf137
 v53:=zeroValue137
 t171:=underlying233
 a171:=isAgg233
 z171:=sizeOf233
 v171:=zeroValue233
 t173:=underlying236
 a173:=isAgg236
 z173:=sizeOf236
 v173:=zeroValue236
 t212:=underlying276
 a212:=isAgg276
 z212:=sizeOf276
 v212:=zeroValue276
 t213:=underlying277
 a213:=isAgg277
 z213:=sizeOf277
 t232:=underlying318
 a232:=isAgg318
 z232:=sizeOf318
 v232:=zeroValue318
 t233:=underlying319
 a233:=isAgg319
 z233:=sizeOf319
 v233:=zeroValue319
 g17:=by kernel_rfl
 g18:=by kernel_rfl
 g19:=by kernel_rfl
 i0:=by kernel_rfl
 i2:=by kernel_rfl
 i3:=by kernel_rfl
 i4:=by kernel_rfl
 i5:=by kernel_rfl
 i9:=by kernel_rfl
 i20:=by kernel_rfl
 i37:=by kernel_rfl
 i46:=by kernel_rfl
 i51:=by kernel_rfl
 i53:=by kernel_rfl
 i171:=by kernel_rfl
 i173:=by kernel_rfl
 i212:=by kernel_rfl
 i232:=by kernel_rfl
 i233:=by kernel_rfl
 m17:=by kernel_rfl
 m18:=by kernel_rfl
 m19:=by kernel_rfl }
open Go.RowKit Go.Sort Go.Lib in
theorem Tryz.strconv_Itoa (n:Int) (h0:-9223372036854775808≤n) (h1:n≤9223372036854775807) (w:World) (htab:Lib.TabIs prog w "internal/strconv.uint64pow10" .u64 Lib.pow10Tab) :
  Calls prog 79 #[.int .i64 n] w fun e w'=>e=.returned (.string ⟨(Lib.itoa n).toArray⟩)∧∃ k os,w'=grow (w.drewN k) os:=Any.strconv_Itoa Tryz.laysM171 n h0 h1 w htab
def Tryz.lays99_ren:Go.Shelf.Ren:=⟨fun|99=>113|206=>170|n=>n,fun|9=>9|4=>4|3=>3|n=>n,fun|n=>n⟩
theorem lays99:Go.Proofs.Lays.n99 prog Tryz.lays99_ren:={
 mixed:=by kernel_rfl
 f99:=func113.trans (congrArg some (by kernel_rfl))
 f206:=func170.trans (congrArg some (by kernel_rfl))
 t3:=underlying3
 a3:=isAgg3
 z3:=sizeOf3
 v3:=zeroValue3
 t4:=underlying4
 a4:=isAgg4
 z4:=sizeOf4
 v4:=zeroValue4
 t9:=underlying9
 a9:=isAgg9
 z9:=sizeOf9
 v9:=zeroValue9 }
open Go.RowKit Go.Lib in
theorem Tryz.strings_HasPrefix (s p:ByteArray) (w:World) :
  Calls prog 113 #[.string s,.string p] w fun e w'=>e=.returned (.bool (Lib.hasPrefix s.data.toList p.data.toList))∧w'=w:=Any.strings_HasPrefix lays99 s p w
def Tryz.lays152_ren:Go.Shelf.Ren:=⟨fun|152=>234|137=>108|119=>257|224=>258|225=>259|217=>162|266=>203|n=>n,fun|9=>9|21=>21|3=>3|4=>4|5=>5|0=>0|46=>185|n=>n,fun|n=>n⟩
theorem lays152:Go.Proofs.Lays.n152 prog Tryz.lays152_ren:={
 mixed:=by kernel_rfl
 f119:=func257.trans (congrArg some (by kernel_rfl))
 f137:=func108.trans (congrArg some (by kernel_rfl))
 f152:=func234.trans (congrArg some (by kernel_rfl))
 f217:=func162.trans (congrArg some (by kernel_rfl))
 f224:=func258.trans (congrArg some (by kernel_rfl))
 f225:=func259.trans (congrArg some (by kernel_rfl))
 f266:=func203.trans (congrArg some (by kernel_rfl))
 t0:=underlying0
 a0:=isAgg0
 z0:=sizeOf0
 v0:=zeroValue0
 t3:=underlying3
 a3:=isAgg3
 z3:=sizeOf3
 v3:=zeroValue3
 t4:=underlying4
 a4:=isAgg4
 z4:=sizeOf4
 v4:=zeroValue4
 t5:=underlying5
 a5:=isAgg5
 z5:=sizeOf5
 v5:=zeroValue5
 t9:=underlying9
 a9:=isAgg9
 z9:=sizeOf9
 v9:=zeroValue9
 t21:=underlying21
 a21:=isAgg21
 z21:=sizeOf21
 v21:=zeroValue21
 t46:=underlying185
 a46:=isAgg185
 z46:=sizeOf185
 v46:=zeroValue185 }
open Go.RowKit Go.Lib in
theorem Tryz.strings_IndexRune_ascii (s:ByteArray) (r:Int) (w:World) (h0:0≤r) (h1:r<128) :
  Calls prog 234 #[.string s,.int .i32 r] w fun e w'=>e=.returned (.int .i64 (Lib.indexByte s.data.toList r.toNat.toUInt8))∧w'=w:=Any.strings_IndexRune_ascii lays152 s r w h0 h1
def Tryz.lays226_ren:Go.Shelf.Ren:=⟨fun|226=>235|n=>n,fun|3=>3|4=>4|n=>n,fun|n=>n⟩
theorem lays226:Go.Proofs.Lays.n226 prog Tryz.lays226_ren:={
 mixed:=by kernel_rfl
 f226:=func235.trans (congrArg some (by kernel_rfl))
 t3:=underlying3
 a3:=isAgg3
 z3:=sizeOf3
 v3:=zeroValue3
 t4:=underlying4
 a4:=isAgg4
 z4:=sizeOf4
 v4:=zeroValue4 }
open Go.RowKit Go.Lib in
theorem Tryz.strings_shouldUseASCIISet (n:Int) (w:World) :
  Calls prog 235 #[.int .i64 n] w fun e w'=>e=.returned (.bool (decide (8<n)))∧w'=w:=Any.strings_shouldUseASCIISet lays226 n w
def Tryz.lays153_ren:Go.Shelf.Ren:=⟨fun|153=>196|152=>234|226=>235|227=>157|228=>199|137=>108|119=>257|224=>258|225=>259|217=>162|266=>203|n=>n,fun|9=>9|3=>3|4=>4|5=>5|21=>21|117=>227|116=>226|0=>0|46=>185|124=>230|n=>n,fun|n=>n⟩
theorem lays153:Go.Proofs.Lays.n153 prog Tryz.lays153_ren:={
 mixed:=by kernel_rfl
 f119:=func257.trans (congrArg some (by kernel_rfl))
 f137:=func108.trans (congrArg some (by kernel_rfl))
 f152:=func234.trans (congrArg some (by kernel_rfl))
 f153:=func196.trans (congrArg some (by kernel_rfl))
 f217:=func162.trans (congrArg some (by kernel_rfl))
 f224:=func258.trans (congrArg some (by kernel_rfl))
 f225:=func259.trans (congrArg some (by kernel_rfl))
 f226:=func235.trans (congrArg some (by kernel_rfl))
 f227:=func157.trans (congrArg some (by kernel_rfl))
 f228:=func199.trans (congrArg some (by kernel_rfl))
 f266:=func203.trans (congrArg some (by kernel_rfl))
 t0:=underlying0
 a0:=isAgg0
 z0:=sizeOf0
 v0:=zeroValue0
 t3:=underlying3
 a3:=isAgg3
 z3:=sizeOf3
 v3:=zeroValue3
 t4:=underlying4
 a4:=isAgg4
 z4:=sizeOf4
 v4:=zeroValue4
 t5:=underlying5
 a5:=isAgg5
 z5:=sizeOf5
 v5:=zeroValue5
 t9:=underlying9
 a9:=isAgg9
 z9:=sizeOf9
 v9:=zeroValue9
 t21:=underlying21
 a21:=isAgg21
 z21:=sizeOf21
 v21:=zeroValue21
 t46:=underlying185
 a46:=isAgg185
 z46:=sizeOf185
 v46:=zeroValue185
 t116:=underlying226
 a116:=isAgg226
 z116:=sizeOf226
 t117:=underlying227
 a117:=isAgg227
 z117:=sizeOf227
 v117:=zeroValue227
 t124:=underlying230
 a124:=isAgg230
 z124:=sizeOf230
 v124:=zeroValue230 }
open Go.RowKit Go.Lib in
theorem Tryz.strings_IndexAny_long (hv116:∀ w,(zeroValue 226).run prog w=.ok (.agg (Array.replicate 256 (.bool false))) w) (s chars:ByteArray) (w:World) (h2:2≤chars.size) (h8:8<s.size) (hs:s.size<4294967281) (hcs:chars.size<4294967281) (hascii:∀ (j:Nat) b,chars.data.toList[j]?=some b→b.toNat<128) :
  Calls prog 196 #[.string s,.string chars] w fun e w'=>e=.returned (.int .i64 (Lib.indexAny s.data.toList chars.data.toList))∧w'=((w.alloc (.cells (Lib.setCells chars.data.toList) 226)).alloc (.cells (Lib.setCells chars.data.toList) 226)):=Any.strings_IndexAny_long lays153 hv116 (by kernel_rfl) s chars w h2 h8 hs hcs hascii
def Tryz.lays105_ren:Go.Shelf.Ren:=⟨fun|105=>69|212=>112|99=>113|165=>114|166=>64|170=>115|169=>65|263=>168|264=>169|206=>170|240=>110|241=>171|276=>163|277=>209|n=>n,fun|9=>9|3=>3|4=>4|20=>20|0=>0|46=>185|109=>192|5=>5|72=>131|76=>134|51=>238|146=>239|53=>137|148=>241|70=>128|37=>129|75=>133|127=>189|164=>231|80=>136|n=>n,fun|n=>n⟩
theorem lays105:Go.Proofs.Lays.n105 prog Tryz.lays105_ren:={
 mixed:=by kernel_rfl
 f99:=func113.trans (congrArg some (by kernel_rfl))
 f105:=func69.trans (congrArg some (by kernel_rfl))
 f165:=func114.trans (congrArg some (by kernel_rfl))
 f166:=func64.trans (congrArg some (by kernel_rfl))
 f169:=func65.trans (congrArg some (by kernel_rfl))
 f170:=func115.trans (congrArg some (by kernel_rfl))
 f206:=func170.trans (congrArg some (by kernel_rfl))
 f212:=func112.trans (congrArg some (by kernel_rfl))
 f240:=func110.trans (congrArg some (by kernel_rfl))
 f241:=func171.trans (congrArg some (by kernel_rfl))
 f263:=func168.trans (congrArg some (by kernel_rfl))
 f264:=func169.trans (congrArg some (by kernel_rfl))
 f276:=func163.trans (congrArg some (by kernel_rfl))
 f277:=func209.trans (congrArg some (by kernel_rfl))
 t0:=underlying0
 a0:=isAgg0
 z0:=sizeOf0
 v0:=zeroValue0
 t3:=underlying3
 a3:=isAgg3
 z3:=sizeOf3
 v3:=zeroValue3
 t4:=underlying4
 a4:=isAgg4
 z4:=sizeOf4
 v4:=zeroValue4
 t5:=underlying5
 a5:=isAgg5
 z5:=sizeOf5
 v5:=zeroValue5
 t9:=underlying9
 a9:=isAgg9
 z9:=sizeOf9
 v9:=zeroValue9
 t20:=underlying20
 a20:=isAgg20
 z20:=sizeOf20
 v20:=zeroValue20
 t37:=underlying129
 a37:=isAgg129
 z37:=sizeOf129
 v37:=zeroValue129
 t46:=underlying185
 a46:=isAgg185
 z46:=sizeOf185
 v46:=zeroValue185
 t51:=underlying238
 a51:=isAgg238
 z51:=sizeOf238
 v51:=zeroValue238
 t53:=underlying137
 a53:=isAgg137
 z53:=sizeOf137
 v53:=zeroValue137
 t70:=underlying128
 a70:=isAgg128
 z70:=sizeOf128
 v70:=zeroValue128
 t72:=underlying131
 a72:=isAgg131
 z72:=sizeOf131
 v72:=zeroValue131
 t75:=underlying133
 a75:=isAgg133
 z75:=sizeOf133
 v75:=zeroValue133
 t76:=underlying134
 a76:=isAgg134
 z76:=sizeOf134
 v76:=zeroValue134
 t109:=underlying192
 a109:=isAgg192
 z109:=sizeOf192
 v109:=zeroValue192
 t127:=underlying189
 a127:=isAgg189
 z127:=sizeOf189
 v127:=zeroValue189
 t146:=underlying239
 a146:=isAgg239
 z146:=sizeOf239
 v146:=zeroValue239
 t148:=underlying241
 a148:=isAgg241
 z148:=sizeOf241
 v148:=zeroValue241
 t164:=underlying231
 a164:=isAgg231
 z164:=sizeOf231
 v164:=zeroValue231 }
theorem Tryz.Builder_Extra_105:Builder.Extra prog Tryz.lays105_ren:={
 sizeBuilder:=by kernel_rfl
 liesBuilder:=by kernel_rfl
 t5:=underlying5
 a5:=isAgg5
 z5:=sizeOf5
 v5:=zeroValue5
 infoByte:=by kernel_rfl
 cellsByte:=by kernel_rfl
 sizeByte:=by kernel_rfl
 neB5:=by decide }
open Go.RowKit Go.Lib in
theorem Tryz.strings_Repeat (s:ByteArray) (c:Nat) (w:World) (hc:c≤9223372036854775807) (hlen:s.size*c≤140737488355328) :
  Calls prog 69 #[.string s,.int .i64 c] w fun e w'=>e=.returned (.string ⟨(Lib.repeatL s.data.toList c).toArray⟩)∧Below w.heap.size w w':=Any.strings_Repeat lays105 Tryz.Builder_Extra_105 s c w hc hlen
def Tryz.lays260_ren:Go.Shelf.Ren:=⟨fun|260=>237|n=>n,fun|9=>9|21=>21|3=>3|4=>4|5=>5|119=>314|0=>0|46=>185|139=>317|138=>316|n=>n,fun|3=>2|4=>3|n=>n⟩
theorem lays260:Go.Proofs.Lays.n260 prog Tryz.lays260_ren:={
 mixed:=by kernel_rfl
 f260:=func237.trans (congrArg some (by kernel_rfl))
 t0:=underlying0
 a0:=isAgg0
 z0:=sizeOf0
 v0:=zeroValue0
 t3:=underlying3
 a3:=isAgg3
 z3:=sizeOf3
 v3:=zeroValue3
 t4:=underlying4
 a4:=isAgg4
 z4:=sizeOf4
 v4:=zeroValue4
 t5:=underlying5
 a5:=isAgg5
 z5:=sizeOf5
 v5:=zeroValue5
 t9:=underlying9
 a9:=isAgg9
 z9:=sizeOf9
 v9:=zeroValue9
 t21:=underlying21
 a21:=isAgg21
 z21:=sizeOf21
 v21:=zeroValue21
 t46:=underlying185
 a46:=isAgg185
 z46:=sizeOf185
 v46:=zeroValue185
 t119:=underlying314
 a119:=isAgg314
 z119:=sizeOf314
 t138:=underlying316
 a138:=isAgg316
 z138:=sizeOf316
 v138:=zeroValue316
 t139:=underlying317
 a139:=isAgg317
 z139:=sizeOf317
 v139:=zeroValue317
 g3:=by kernel_rfl
 g4:=by kernel_rfl }
def Tryz.lays274_ren:Go.Shelf.Ren:=⟨fun|274=>291|n=>n,fun|21=>21|162=>348|160=>349|3=>3|4=>4|46=>185|0=>0|208=>355|51=>238|206=>353|n=>n,fun|n=>n⟩
theorem lays274:Go.Proofs.Lays.n274 prog Tryz.lays274_ren:={
 mixed:=by kernel_rfl
 f274:=func291.trans (congrArg some (by kernel_rfl))
 t0:=underlying0
 a0:=isAgg0
 z0:=sizeOf0
 v0:=zeroValue0
 t3:=underlying3
 a3:=isAgg3
 z3:=sizeOf3
 v3:=zeroValue3
 t4:=underlying4
 a4:=isAgg4
 z4:=sizeOf4
 v4:=zeroValue4
 t21:=underlying21
 a21:=isAgg21
 z21:=sizeOf21
 v21:=zeroValue21
 t46:=underlying185
 a46:=isAgg185
 z46:=sizeOf185
 v46:=zeroValue185
 t51:=underlying238
 a51:=isAgg238
 z51:=sizeOf238
 v51:=zeroValue238
 t160:=underlying349
 a160:=isAgg349
 z160:=sizeOf349
 v160:=zeroValue349
 t162:=underlying348
 a162:=isAgg348
 z162:=sizeOf348
 v162:=zeroValue348
 t208:=underlying355
 a208:=isAgg355
 z208:=sizeOf355
 v208:=zeroValue355 }
open Go.RowKit Go.Lib in
theorem Tryz.strings_ToLower_any (s:ByteArray) (w:World) (hs:s.size<35184372088832) (hV:CaseVar 8 caseA w) (hT:Lib.Utf8Tabs 2 3 w) :
  Calls prog 262 #[.string s] w fun e w'=>e=.returned (.string ⟨(Lib.toLowerD s.data.toList).toArray⟩)∧Below w.heap.size w w':=Any.strings_ToLower_any lays159 Tryz.Builder_Extra_159 s w hs hV hT
def Tryz.lays107_ren:Go.Shelf.Ren:=⟨fun|107=>231|108=>251|n=>n,fun|28=>100|3=>3|4=>4|0=>0|n=>n,fun|n=>n⟩
theorem lays107:Go.Proofs.Lays.n107 prog Tryz.lays107_ren:={
 mixed:=by kernel_rfl
 f107:=func231.trans (congrArg some (by kernel_rfl))
 f108:=func251.trans (congrArg some (by kernel_rfl))
 t0:=underlying0
 a0:=isAgg0
 z0:=sizeOf0
 v0:=zeroValue0
 t3:=underlying3
 a3:=isAgg3
 z3:=sizeOf3
 v3:=zeroValue3
 t4:=underlying4
 a4:=isAgg4
 z4:=sizeOf4
 v4:=zeroValue4
 t28:=underlying100
 a28:=isAgg100
 z28:=sizeOf100
 v28:=zeroValue100 }
open Go.Lib in
theorem Tryz.slices_Contains_int (b off n c:Nat) (zs:List Int) (x:Int) (w:World) (hz:n≤zs.length) (hbig:n≤9223372036854775807) (hc:∀ j,j<zs.length→w.cell? ⟨b,off+j,none⟩=some (.int .i64 (zs.getD j 0))) :
  Calls prog 231 #[.slice (some ⟨b,off,none⟩) n c,.int .i64 x] w fun e w'=>e=.returned (.bool ((zs.take n).contains x))∧w'=w:=Any.slices_Contains_int lays107 b off n c zs x w hz hbig hc
def Tryz.lays110_ren:Go.Shelf.Ren:=⟨fun|110=>186|109=>226|n=>n,fun|31=>22|9=>9|4=>4|3=>3|0=>0|n=>n,fun|n=>n⟩
theorem lays110:Go.Proofs.Lays.n110 prog Tryz.lays110_ren:={
 mixed:=by kernel_rfl
 f109:=func226.trans (congrArg some (by kernel_rfl))
 f110:=func186.trans (congrArg some (by kernel_rfl))
 t0:=underlying0
 a0:=isAgg0
 z0:=sizeOf0
 v0:=zeroValue0
 t3:=underlying3
 a3:=isAgg3
 z3:=sizeOf3
 v3:=zeroValue3
 t4:=underlying4
 a4:=isAgg4
 z4:=sizeOf4
 v4:=zeroValue4
 t9:=underlying9
 a9:=isAgg9
 z9:=sizeOf9
 v9:=zeroValue9
 t31:=underlying22
 a31:=isAgg22
 z31:=sizeOf22
 v31:=zeroValue22 }
open Go.Lib in
theorem Tryz.slices_Contains_string (b off n c:Nat) (zs:List ByteArray) (x:ByteArray) (w:World) (hz:n≤zs.length) (hbig:n≤9223372036854775807) (hc:∀ j,j<zs.length→w.cell? ⟨b,off+j,none⟩=some (.string (zs.getD j ByteArray.empty))) :
  Calls prog 186 #[.slice (some ⟨b,off,none⟩) n c,.string x] w fun e w'=>e=.returned (.bool (Lib.containsS (zs.take n) x))∧w'=w:=Any.slices_Contains_string lays110 b off n c zs x w hz hbig hc
def Tryz.laysNm217_ren:Go.Shelf.Ren:=⟨fun|17=>109|n=>n,fun|24=>22|9=>9|3=>3|4=>4|0=>0|n=>n,fun|n=>n⟩
theorem Tryz.laysNm217:Go.Proofs.Lays2.n17 prog Tryz.laysNm217_ren:={
 mixed:=by kernel_rfl
 f17:=func109.trans (congrArg some (by kernel_rfl))
 t0:=underlying0
 a0:=isAgg0
 z0:=sizeOf0
 v0:=zeroValue0
 t3:=underlying3
 a3:=isAgg3
 z3:=sizeOf3
 v3:=zeroValue3
 t4:=underlying4
 a4:=isAgg4
 z4:=sizeOf4
 v4:=zeroValue4
 t9:=underlying9
 a9:=isAgg9
 z9:=sizeOf9
 v9:=zeroValue9
 t24:=underlying22
 a24:=isAgg22
 z24:=sizeOf22
 v24:=zeroValue22 }
open Go.RowKit Go.Lib Go.Sort in
theorem Tryz.slices_Reverse_string_empty (a:Option Addr) (cap:Nat) (w:World) :
  Calls prog 109 #[.slice a 0 cap] w fun e w'=>e=.returned (.tuple #[])∧w'=w:=Any.slices_Reverse_string_empty Tryz.laysNm217 a cap w
def Tryz.laysNm216_ren:Go.Shelf.Ren:=⟨fun|16=>29|n=>n,fun|24=>22|9=>9|4=>4|n=>n,fun|n=>n⟩
theorem Tryz.laysNm216:Go.Proofs.Lays2.n16 prog Tryz.laysNm216_ren:={
 mixed:=by kernel_rfl
 f16:=func29.trans (congrArg some (by kernel_rfl))
 t4:=underlying4
 a4:=isAgg4
 z4:=sizeOf4
 v4:=zeroValue4
 t9:=underlying9
 a9:=isAgg9
 z9:=sizeOf9
 v9:=zeroValue9
 t24:=underlying22
 a24:=isAgg22
 z24:=sizeOf22
 v24:=zeroValue22
 i9:=by kernel_rfl }
open Go.RowKit Go.Lib in
theorem Tryz.slices_Clone_string (b off n c:Nat) (zs:List ByteArray) (w:World) (hz:n≤zs.length) (hbig:n*16≤140737488355328) (hc:∀ j,j<zs.length→w.cell? ⟨b,off+j,none⟩=some (.string (zs.getD j ByteArray.empty))) :
  Calls prog 29 #[.slice (some ⟨b,off,none⟩) n c] w fun e w'=>∃ v',e=.returned v'∧w'.ownsRow w.heap.size 9 1 v' n ((zs.take n).map (Value.string))∧v'≠.slice none 0 0∧Below w.heap.size w w':=Any.slices_Clone_string Tryz.laysNm216 b off n c zs w hz hbig hc
open Go.RowKit Go.Lib in
theorem Tryz.slices_Clone_string_nil (n c:Nat) (w:World) :
  Calls prog 29 #[.slice none n c] w fun e w'=>e=.returned (.slice none 0 0)∧w'=w:=Any.slices_Clone_string_nil Tryz.laysNm216 n c w
open Go.RowKit Go.Lib in
theorem Tryz.slices_Clone_string_zero (a:Addr) (c:Nat) (w:World) :
  Calls prog 29 #[.slice (some a) 0 c] w fun e w'=>∃ v',e=.returned v'∧w'.ownsRow w.heap.size 9 1 v' 0 []∧v'≠.slice none 0 0∧Below w.heap.size w w':=Any.slices_Clone_string_zero Tryz.laysNm216 a c w
open Go.RowKit Go.Lib Go.Sort in
theorem Tryz.slices_Reverse_string_cells (b off n c:Nat) (Sx:Nat→ByteArray) (w:World) (hbig:n≤9223372036854775807) (hc:∀ i,i<n→w.cell? ⟨b,off+i,none⟩=some (.string (Sx i))) (hf:∀ j,j<n→w.frozen? ⟨b,off+j,none⟩=false) :
  Calls prog 109 #[.slice (some ⟨b,off,none⟩) n c] w fun e w'=>e=.returned (.tuple #[])∧∃ q,w'=(w.drewN q).setCells b off ((Lib.strsOf Sx n).reverse.map encStr):=Any.slices_Reverse_string_cells Tryz.laysNm217 b off n c Sx w hbig hc hf
def Tryz.laysSlM6_f229_ren:Go.Shelf.Ren:=⟨fun|6=>229|8=>178|9=>250|19=>221|20=>205|21=>263|22=>264|23=>265|24=>266|25=>267|26=>268|27=>269|28=>270|29=>271|36=>277|31=>243|32=>244|37=>278|38=>279|39=>280|41=>287|n=>n,fun|27=>22|29=>9|3=>3|32=>185|26=>22|0=>0|44=>238|46=>137|4=>4|36=>282|35=>281|41=>286|5=>5|9=>9|53=>297|57=>301|63=>320|64=>258|n=>n,fun|n=>n⟩
theorem Tryz.laysSlM6_f229:Go.Proofs.SlLaysM.n6 prog Tryz.laysSlM6_f229_ren:={
 mixed:=by kernel_rfl
 f6:=⟨Tryz.f229.name,by decide,func229.trans (congrArg some (by kernel_rfl))⟩
 f8:=func178.trans (congrArg some (by kernel_rfl))
 f9:=⟨Tryz.f250.name,by decide,func250.trans (congrArg some (by kernel_rfl))⟩
 f19:=func221.trans (congrArg some (by kernel_rfl))
 f20:=func205.trans (congrArg some (by kernel_rfl))
 f21:=⟨Tryz.f263.name,by decide,func263.trans (congrArg some (by kernel_rfl))⟩
 f22:=⟨Tryz.f264.name,by decide,func264.trans (congrArg some (by kernel_rfl))⟩
 f23:=⟨Tryz.f265.name,by decide,func265.trans (congrArg some (by kernel_rfl))⟩
 f24:=⟨Tryz.f266.name,by decide,func266.trans (congrArg some (by kernel_rfl))⟩
 f25:=⟨Tryz.f267.name,by decide,func267.trans (congrArg some (by kernel_rfl))⟩
 f26:=⟨Tryz.f268.name,by decide,func268.trans (congrArg some (by kernel_rfl))⟩
 f27:=⟨Tryz.f269.name,by decide,func269.trans (congrArg some (by kernel_rfl))⟩
 f28:=⟨Tryz.f270.name,by decide,func270.trans (congrArg some (by kernel_rfl))⟩
 f29:=⟨Tryz.f271.name,by decide,func271.trans (congrArg some (by kernel_rfl))⟩
 f31:=func243.trans (congrArg some (by kernel_rfl))
 f32:=func244.trans (congrArg some (by kernel_rfl))
 f36:=⟨Tryz.f277.name,by decide,func277.trans (congrArg some (by kernel_rfl))⟩
 f37:=⟨Tryz.f278.name,by decide,func278.trans (congrArg some (by kernel_rfl))⟩
 f38:=⟨Tryz.f279.name,by decide,func279.trans (congrArg some (by kernel_rfl))⟩
 f39:=⟨Tryz.f280.name,by decide,func280.trans (congrArg some (by kernel_rfl))⟩
 f41:=⟨Tryz.f287.name,by decide,func287.trans (congrArg some (by kernel_rfl))⟩
 t0:=underlying0
 a0:=isAgg0
 z0:=sizeOf0
 v0:=zeroValue0
 t3:=underlying3
 a3:=isAgg3
 z3:=sizeOf3
 v3:=zeroValue3
 t4:=underlying4
 a4:=isAgg4
 z4:=sizeOf4
 v4:=zeroValue4
 t5:=underlying5
 a5:=isAgg5
 z5:=sizeOf5
 v5:=zeroValue5
 t9:=underlying9
 a9:=isAgg9
 z9:=sizeOf9
 v9:=zeroValue9
 t26:=underlying22
 a26:=isAgg22
 z26:=sizeOf22
 v26:=zeroValue22
 t27:=underlying22
 a27:=isAgg22
 z27:=sizeOf22
 v27:=zeroValue22
 t29:=underlying9
 a29:=isAgg9
 z29:=sizeOf9
 v29:=zeroValue9
 t32:=underlying185
 a32:=isAgg185
 z32:=sizeOf185
 v32:=zeroValue185
 t35:=underlying281
 a35:=isAgg281
 z35:=sizeOf281
 v35:=zeroValue281
 t36:=underlying282
 a36:=isAgg282
 z36:=sizeOf282
 v36:=zeroValue282
 t41:=underlying286
 a41:=isAgg286
 z41:=sizeOf286
 v41:=zeroValue286
 t44:=underlying238
 a44:=isAgg238
 z44:=sizeOf238
 v44:=zeroValue238
 t46:=underlying137
 a46:=isAgg137
 z46:=sizeOf137
 v46:=zeroValue137
 t53:=underlying297
 a53:=isAgg297
 z53:=sizeOf297
 v53:=zeroValue297
 t57:=underlying301
 a57:=isAgg301
 z57:=sizeOf301
 v57:=zeroValue301
 t63:=underlying320
 a63:=isAgg320
 z63:=sizeOf320
 v63:=zeroValue320
 t64:=underlying258
 a64:=isAgg258
 z64:=sizeOf258
 v64:=zeroValue258 }
open Go.Sort Go.RowKit in
theorem Tryz.slices_Sort_string (blk off cap:Nat) (ss:List (List UInt8)) (w:World) (hH:Holds encStr w blk off ss.toArray) (hblk:blk<w.heap.size) (hsz:ss.length<4611686018427387904) :
  Calls prog 229 #[.slice (some ⟨blk,off,none⟩) ss.length cap] w fun e w' =>
   e=.returned (.tuple #[])∧∃ n os,w'=grow (putRow encStr (Sort.ahead w n) blk off (ss.mergeSort fun x y=>decide (x≤y)).toArray) os:=AnyM.slices_Sort_string Tryz.laysSlM6_f229 blk off cap ss w hH hblk hsz
open Go.RowKit Go.Sort in
theorem Tryz.slices_Sort_string_none (p:Option Addr) (cap:Nat) (w:World) :
  Calls prog 229 #[.slice p 0 cap] w fun e w'=>e=.returned (.tuple #[])∧w'=w:=AnyM.slices_Sort_string_none Tryz.laysSlM6_f229 p cap w
end
end Go.Proofs

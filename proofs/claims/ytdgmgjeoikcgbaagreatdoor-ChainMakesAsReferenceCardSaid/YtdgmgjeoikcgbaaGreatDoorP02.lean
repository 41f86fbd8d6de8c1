/-
  ChainMakes: the proof, part 3 of 34.
-/
import Derived.Test.YtdgmgjeoikcgbaaGreatDoorP00
import Derived.Shelf.Strings.Trim
import Derived.Shelf.Small.Wraps
import Derived.Shelf.Strconv.Itoa3
import Derived.Shelf.Strconv.ErrVarAll
import Derived.Shelf.Unicode.Latin
import Derived.Shelf.Strings.IndexAnyAll
import Derived.Shelf.Strings.Repeat
import Derived.Shelf.Strings.CaseAny
import Derived.Shelf.Slices.Turned
import Derived.Shelf.Slices.Clone
import Derived.Shelf.Slices.Cells
set_option linter.unusedSimpArgs false
set_option linter.unusedVariables false
set_option maxHeartbeats 40000000
set_option maxRecDepth 100000
open Go renaming World -> ZB, Calls -> ZE
namespace Go.Proofs
section
open Go.Proofs.Tryz Go.Shelf
def Tryz.lays169_ren:Go.Shelf.Ren:=⟨fun|169=>86|n=>n,fun|70=>127|9=>9|0=>0|72=>130|37=>128|127=>192|3=>3|5=>5|n=>n,fun|n=>n⟩
theorem lays169:Go.Proofs.Lays.n169 prog Tryz.lays169_ren:=lR
theorem Tryz.Builder_Extra_169:Builder.Extra prog Tryz.lays169_ren:=lR
open Go.RowKit in
theorem Tryz.Builder_String_any (B b:Nat) (l:List UInt8) (w:ZB) (h:Lib.IsBuilder 130 5 B b (Lib.byteCells l) w) (hBw:B<=w.heap.size) : ZE prog 86 #[.pointer (some ⟨b,0,none⟩)] w fun e w'=>e=.returned ↑l/\Below B w w':=Any.Builder_String_any lays169 Tryz.Builder_Extra_169 B b l w h hBw
def Tryz.lays159_ren:Go.Shelf.Ren:=⟨fun|159=>323|165=>147|166=>85|167=>142|169=>86|230=>338|204=>339|240=>143|241=>210|197=>250|118=>347|168=>348|270=>349|262=>350|276=>202|277=>259|260=>295|242=>353|313=>354|278=>355|274=>356|275=>357|n=>n,fun|9=>9|4=>4|3=>3|5=>5|72=>130|0=>0|76=>133|75=>132|107=>332|70=>127|20=>20|37=>128|127=>192|21=>21|105=>269|164=>234|162=>347|203=>345|119=>312|46=>191|139=>315|138=>314|51=>241|160=>348|208=>354|206=>352|80=>135|n=>n,fun|13=>8|3=>2|4=>3|n=>n⟩
theorem lays159:Go.Proofs.Lays.n159 prog Tryz.lays159_ren:=lR
theorem Tryz.jF:Builder.Extra prog Tryz.lays159_ren:=lR
def Tryz.lays156_ren:Go.Shelf.Ren:=⟨fun|156=>103|165=>147|166=>85|169=>86|240=>143|241=>210|276=>202|277=>259|n=>n,fun|31=>25|9=>9|3=>3|4=>4|0=>0|20=>20|72=>130|76=>133|70=>127|37=>128|75=>132|127=>192|164=>234|5=>5|80=>135|n=>n,fun|n=>n⟩
theorem lays156:Go.Proofs.Lays.n156 prog Tryz.lays156_ren:=lR
theorem Tryz.Builder_Extra_156:Builder.Extra prog Tryz.lays156_ren:=lR
open Go.RowKit in
theorem Tryz.strings_Join_none (a:Option Addr) (c:Nat) (sep:ByteArray) (w:ZB) : ZE prog 103 #[.slice a 0 c,.string sep] w fun e w'=>e=.returned (.string ⟨#[]⟩)/\w'=w:=Any.strings_Join_none lays156 Tryz.Builder_Extra_156 a c sep w
open Go.RowKit in
theorem Tryz.strings_Join (bk o c:Nat) (xs:List ByteArray) (sep:ByteArray) (w:ZB) (hcells:∀ (j:Nat) x,xs[j]?=some x->w.cell? ⟨bk,o+j,none⟩=some (.string x)) (hbk:bk<w.heap.size) (hN:xs.length<=140737488355328) (hcap:xs.length<=c) (hlen:(Lib.join (xs.map (·.data.toList)) sep.data.toList).length<=140737488355328) : ZE prog 103 #[.slice (some ⟨bk,o,none⟩) xs.length c,.string sep] w fun e w'=>e=.returned (.string ⟨(Lib.join (xs.map (·.data.toList)) sep.data.toList).toArray⟩)/\Below w w w':=Any.strings_Join lays156 Tryz.Builder_Extra_156 bk o c xs sep w hcells hbk hN hcap hlen
def Tryz.lays160_ren:Go.Shelf.Ren:=⟨fun|160=>132|232=>192|231=>191|227=>193|234=>195|233=>194|236=>197|235=>196|228=>249|271=>252|151=>251|197=>250|120=>296|152=>281|260=>295|137=>118|119=>314|224=>315|225=>316|217=>180|266=>232|n=>n,fun|9=>9|4=>4|3=>3|5=>5|117=>229|116=>228|0=>0|124=>232|21=>21|105=>269|46=>191|119=>312|139=>315|138=>314|n=>n,fun|3=>2|4=>3|n=>n⟩
theorem lays160:Go.Proofs.Lays.n160 prog Tryz.lays160_ren:=lR
def Tryz.lays119_ren:Go.Shelf.Ren:=⟨fun|119=>314|n=>n,fun|21=>21|4=>4|n=>n,fun|n=>n⟩
theorem lays119:Go.Proofs.Lays.n119 prog Tryz.lays119_ren:=lR
theorem Tryz.utf8_ValidRune (r:Int) (w:ZB) : ZE prog 314 #[.int .i32 r] w fun e w'=>e=.returned (.bool (Lib.validRune r))/\w'=w:=Any.utf8_ValidRune lays119 r w
def Tryz.lays125_ren:Go.Shelf.Ren:=⟨fun|125=>213|128=>268|129=>255|n=>n,fun|46=>191|3=>3|51=>241|53=>136|4=>4|5=>5|9=>9|n=>n,fun|n=>n⟩
theorem lays125:Go.Proofs.Lays.n125 prog Tryz.lays125_ren:=lR
theorem Tryz.bits_Len (x:Int) (w:ZB) (h0:0<=x) (h1:x<=18446744073709551615) : ZE prog 213 #[.int .u64 x] w fun e w'=>e=.returned (.int .i64 (Lib.bitLen x.toNat))/\w'=w:=Any.bits_Len lays125 x w h0 h1
def Tryz.lays137_ren:Go.Shelf.Ren:=⟨fun|137=>118|217=>180|266=>232|n=>n,fun|9=>9|5=>5|3=>3|n=>n,fun|n=>n⟩
theorem lays137:Go.Proofs.Lays.n137 prog Tryz.lays137_ren:=lR
open Go.RowKit in
theorem Tryz.strings_IndexByte (s:ByteArray) (c:Int) (w:ZB) : ZE prog 118 #[.string s,.int .u8 c] w fun e w'=>e=.returned (.int .i64 (Lib.indexByte s.data.toList c.toNat.toUInt8))/\w'=w:=Any.strings_IndexByte lays137 s c w
def Tryz.lays172_ren:Go.Shelf.Ren:=⟨fun|172=>230|244=>279|245=>280|247=>309|279=>310|280=>311|281=>312|282=>313|287=>333|316=>334|171=>101|205=>335|321=>344|322=>345|243=>158|246=>218|283=>203|284=>204|285=>205|286=>206|129=>255|317=>254|318=>256|319=>257|320=>258|337=>297|338=>298|n=>n,fun|9=>9|3=>3|75=>132|76=>133|4=>4|5=>5|167=>304|37=>128|0=>0|85=>305|2=>2|168=>307|53=>136|175=>326|46=>191|210=>329|127=>192|145=>338|143=>336|21=>21|171=>236|173=>239|212=>274|51=>241|20=>20|213=>275|232=>316|233=>317|80=>135|n=>n,fun|15=>6|16=>7|17=>0|18=>4|19=>5|n=>n⟩
theorem lays172:Go.Proofs.Lays.n172 prog Tryz.lays172_ren:=lR
open Go.RowKit in
theorem Tryz.strconv_Atoi (s:ByteArray) (n:Int) (hl:s.size<=18) (h:Lib.atoi s.data.toList=some n) (w:ZB) : ZE prog 230 #[.string s] w fun e w'=>e=.returned (.tuple #[↑n,.nilIface])/\∃ t,w'=Lib.bytesWorld w 5 t:=Any.strconv_Atoi lays172 s n hl h w
def Tryz.pU:Go.Shelf.Ren:=⟨fun|171=>101|243=>158|246=>218|283=>203|284=>204|285=>205|286=>206|129=>255|317=>254|318=>256|319=>257|320=>258|337=>297|338=>298|n=>n,fun|3=>3|9=>9|2=>2|4=>4|171=>236|0=>0|53=>136|37=>128|5=>5|173=>239|212=>274|51=>241|20=>20|213=>275|46=>191|232=>316|233=>317|n=>n,fun|17=>0|18=>4|19=>5|n=>n⟩
theorem Tryz.laysM171:Go.Proofs.LaysM.n171 prog Tryz.pU:=lR
open Go.RowKit Go.Sort Go.Lib in
theorem Tryz.strconv_Itoa (n:Int) (h0:-9223372036854775808<=n) (h1:n<=9223372036854775807) (w:ZB) (htab:Lib.TabIs prog w "internal/strconv.uint64pow10" .u64 Lib.pow10Tab) : ZE prog 101 #[↑n] w fun e w'=>e=.returned (.string ⟨(Lib.itoa n).toArray⟩)/\∃ k os,w'=grow (w.drewN k) os:=Any.strconv_Itoa Tryz.laysM171 n h0 h1 w htab
def Tryz.lays99_ren:Go.Shelf.Ren:=⟨fun|99=>146|206=>209|n=>n,fun|9=>9|4=>4|3=>3|n=>n,fun|n=>n⟩
theorem lays99:Go.Proofs.Lays.n99 prog Tryz.lays99_ren:=lR
open Go.RowKit Go.Lib in
theorem Tryz.strings_HasPrefix (s p:ByteArray) (w:ZB) : ZE prog 146 #[.string s,.string p] w fun e w'=>e=.returned (.bool (Lib.hasPrefix s.data.toList p.data.toList))/\w'=w:=Any.strings_HasPrefix lays99 s p w
def Tryz.lays152_ren:Go.Shelf.Ren:=⟨fun|152=>281|137=>118|119=>314|224=>315|225=>316|217=>180|266=>232|n=>n,fun|9=>9|21=>21|3=>3|4=>4|5=>5|0=>0|46=>191|n=>n,fun|n=>n⟩
theorem lays152:Go.Proofs.Lays.n152 prog Tryz.lays152_ren:=lR
open Go.RowKit Go.Lib in
theorem Tryz.strings_IndexRune_ascii (s:ByteArray) (r:Int) (w:ZB) (h0:0<=r) (h1:r<128) : ZE prog 281 #[.string s,.int .i32 r] w fun e w'=>e=.returned (.int .i64 (Lib.indexByte s.data.toList r.toNat.toUInt8))/\w'=w:=Any.strings_IndexRune_ascii lays152 s r w h0 h1
def Tryz.lays226_ren:Go.Shelf.Ren:=⟨fun|226=>282|n=>n,fun|3=>3|4=>4|n=>n,fun|n=>n⟩
theorem lays226:Go.Proofs.Lays.n226 prog Tryz.lays226_ren:=lR
open Go.RowKit Go.Lib in
theorem Tryz.strings_shouldUseASCIISet (n:Int) (w:ZB) : ZE prog 282 #[↑n] w fun e w'=>e=.returned (.bool (decide (8<n)))/\w'=w:=Any.strings_shouldUseASCIISet lays226 n w
def Tryz.lays153_ren:Go.Shelf.Ren:=⟨fun|153=>231|152=>281|226=>282|227=>193|228=>249|137=>118|119=>314|224=>315|225=>316|217=>180|266=>232|n=>n,fun|9=>9|3=>3|4=>4|5=>5|21=>21|117=>229|116=>228|0=>0|46=>191|124=>232|n=>n,fun|n=>n⟩
theorem lays153:Go.Proofs.Lays.n153 prog Tryz.lays153_ren:=lR
open Go.RowKit Go.Lib in
theorem Tryz.strings_IndexAny_long (hv116:∀ w,(zeroValue 228).run prog w=.ok (.agg (Array.replicate 256 (.bool false))) w) (s chars:ByteArray) (w:ZB) (h2:2<=chars.size) (h8:8<s.size) (hs:s.size<4294967281) (hcs:chars.size<4294967281) (hascii:∀ (j:Nat) b,chars.data.toList[j]?=some b->b.toNat<128) : ZE prog 231 #[.string s,.string chars] w fun e w'=>e=.returned (.int .i64 (Lib.indexAny s.data.toList chars.data.toList))/\w'=((w.alloc (.cells (Lib.setCells chars.data.toList) 228)).alloc (.cells (Lib.setCells chars.data.toList) 228)):=Any.strings_IndexAny_long lays153 hv116 kR s chars w h2 h8 hs hcs hascii
def Tryz.lays105_ren:Go.Shelf.Ren:=⟨fun|105=>90|212=>145|99=>146|165=>147|166=>85|170=>148|169=>86|263=>207|264=>208|206=>209|240=>143|241=>210|276=>202|277=>259|n=>n,fun|9=>9|3=>3|4=>4|20=>20|0=>0|46=>191|109=>195|5=>5|72=>130|76=>133|51=>241|146=>242|53=>136|148=>244|70=>127|37=>128|75=>132|127=>192|164=>234|80=>135|n=>n,fun|n=>n⟩
theorem lays105:Go.Proofs.Lays.n105 prog Tryz.lays105_ren:=lR
theorem Tryz.Builder_Extra_105:Builder.Extra prog Tryz.lays105_ren:=lR
open Go.RowKit Go.Lib in
theorem Tryz.strings_Repeat (s:ByteArray) (c:Nat) (w:ZB) (hc:c<=9223372036854775807) (hlen:s.size*c<=140737488355328) : ZE prog 90 #[.string s,↑c] w fun e w'=>e=.returned (.string ⟨(Lib.repeatL s.data.toList c).toArray⟩)/\Below w w w':=Any.strings_Repeat lays105 Tryz.Builder_Extra_105 s c w hc hlen
def Tryz.lays260_ren:Go.Shelf.Ren:=⟨fun|260=>295|n=>n,fun|9=>9|21=>21|3=>3|4=>4|5=>5|119=>312|0=>0|46=>191|139=>315|138=>314|n=>n,fun|3=>2|4=>3|n=>n⟩
theorem lays260:Go.Proofs.Lays.n260 prog Tryz.lays260_ren:=lR
def Tryz.lays274_ren:Go.Shelf.Ren:=⟨fun|274=>356|n=>n,fun|21=>21|162=>347|160=>348|3=>3|4=>4|46=>191|0=>0|208=>354|51=>241|206=>352|n=>n,fun|n=>n⟩
theorem lays274:Go.Proofs.Lays.n274 prog Tryz.lays274_ren:=lR
open Go.RowKit Go.Lib in
theorem Tryz.strings_ToLower_any (s:ByteArray) (w:ZB) (hs:s.size<35184372088832) (hV:CaseVar 8 caseA w) (hT:Lib.Utf8Tabs 2 3 w) : ZE prog 323 #[.string s] w fun e w'=>e=.returned (.string ⟨(Lib.toLowerD s.data.toList).toArray⟩)/\Below w w w':=Any.strings_ToLower_any lays159 Tryz.jF s w hs hV hT
def Tryz.lays107_ren:Go.Shelf.Ren:=⟨fun|107=>278|108=>308|n=>n,fun|28=>95|3=>3|4=>4|0=>0|n=>n,fun|n=>n⟩
theorem lays107:Go.Proofs.Lays.n107 prog Tryz.lays107_ren:=lR
open Go.Lib in
theorem Tryz.slices_Contains_int (b off n c:Nat) (zs:List Int) (x:Int) (w:ZB) (hz:n<=zs.length) (hbig:n<=9223372036854775807) (hc:∀ j,j<zs.length->w.cell? ⟨b,off+j,none⟩=some (.int .i64 (zs.getD j 0))) : ZE prog 278 #[.slice (some ⟨b,off,none⟩) n c,↑x] w fun e w'=>e=.returned (.bool ((zs.take n).contains x))/\w'=w:=Any.slices_Contains_int lays107 b off n c zs x w hz hbig hc
def Tryz.lays110_ren:Go.Shelf.Ren:=⟨fun|110=>221|109=>273|n=>n,fun|31=>25|9=>9|4=>4|3=>3|0=>0|n=>n,fun|n=>n⟩
theorem lays110:Go.Proofs.Lays.n110 prog Tryz.lays110_ren:=lR
open Go.Lib in
theorem Tryz.slices_Contains_string (b off n c:Nat) (zs:List ByteArray) (x:ByteArray) (w:ZB) (hz:n<=zs.length) (hbig:n<=9223372036854775807) (hc:∀ j,j<zs.length->w.cell? ⟨b,off+j,none⟩=some (.string (zs.getD j ByteArray.empty))) : ZE prog 221 #[.slice (some ⟨b,off,none⟩) n c,.string x] w fun e w'=>e=.returned (.bool (Lib.containsS (zs.take n) x))/\w'=w:=Any.slices_Contains_string lays110 b off n c zs x w hz hbig hc
def Tryz.oI:Go.Shelf.Ren:=⟨fun|17=>119|n=>n,fun|24=>25|9=>9|3=>3|4=>4|0=>0|n=>n,fun|n=>n⟩
theorem Tryz.laysNm217:Go.Proofs.Lays2.n17 prog Tryz.oI:=lR
open Go.RowKit Go.Lib Go.Sort in
theorem Tryz.slices_Reverse_string_empty (a:Option Addr) (cap:Nat) (w:ZB) : ZE prog 119 #[.slice a 0 cap] w fun e w'=>e=.returned (.tuple #[])/\w'=w:=Any.slices_Reverse_string_empty Tryz.laysNm217 a cap w
def Tryz.oJ:Go.Shelf.Ren:=⟨fun|16=>35|n=>n,fun|24=>25|9=>9|4=>4|n=>n,fun|n=>n⟩
theorem Tryz.laysNm216:Go.Proofs.Lays2.n16 prog Tryz.oJ:=lR
open Go.RowKit Go.Lib in
theorem Tryz.slices_Clone_string (b off n c:Nat) (zs:List ByteArray) (w:ZB) (hz:n<=zs.length) (hbig:n*16<=140737488355328) (hc:∀ j,j<zs.length->w.cell? ⟨b,off+j,none⟩=some (.string (zs.getD j ByteArray.empty))) : ZE prog 35 #[.slice (some ⟨b,off,none⟩) n c] w fun e w'=>∃ v',e=.returned v'/\w'.ownsRow w 9 1 v' n ((zs.take n).map Value.string)/\v'≠.slice none 0 0/\Below w w w':=Any.slices_Clone_string Tryz.laysNm216 b off n c zs w hz hbig hc
open Go.RowKit Go.Lib in
theorem Tryz.slices_Clone_string_nil (n c:Nat) (w:ZB) : ZE prog 35 #[.slice none n c] w fun e w'=>e=.returned (.slice none 0 0)/\w'=w:=Any.slices_Clone_string_nil Tryz.laysNm216 n c w
open Go.RowKit Go.Lib in
theorem Tryz.slices_Clone_string_zero (a:Addr) (c:Nat) (w:ZB) : ZE prog 35 #[.slice (some a) 0 c] w fun e w'=>∃ v',e=.returned v'/\w'.ownsRow w 9 1 v' 0 []/\v'≠.slice none 0 0/\Below w w w':=Any.slices_Clone_string_zero Tryz.laysNm216 a c w
open Go.RowKit Go.Lib Go.Sort in
theorem Tryz.slices_Reverse_string_cells (b off n c:Nat) (Sx:Nat->ByteArray) (w:ZB) (hbig:n<=9223372036854775807) (hc:∀ i,i<n->w.cell? ⟨b,off+i,none⟩=some (.string (Sx i))) (hf:∀ j,j<n->w.frozen? ⟨b,off+j,none⟩=false) : ZE prog 119 #[.slice (some ⟨b,off,none⟩) n c] w fun e w'=>e=.returned (.tuple #[])/\∃ q,w'=(w.drewN q).setCells b off ((Lib.strsOf Sx n).reverse.map encStr):=Any.slices_Reverse_string_cells Tryz.laysNm217 b off n c Sx w hbig hc hf
end
end Go.Proofs

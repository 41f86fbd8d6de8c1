/- ChainTexts, part 2 of 31. -/
import Derived.Test.YtkboocifdaebgaaGreatDoorP00
import Derived.Shelf.Strings.Trim
import Derived.Shelf.Small.Wraps
import Derived.Shelf.Strconv.Itoa3
import Derived.Shelf.Strconv.ErrVarAll
import Derived.Shelf.Strings.Shaped
import Derived.Shelf.Strings.Split
import Derived.Shelf.Strings.IndexAnyAll
import Derived.Shelf.Strings.Repeat
import Derived.Shelf.Strings.FieldsAny
import Derived.Shelf.Strings.CaseAny
import Derived.Shelf.Unicode.ExclAny
import Derived.Shelf.Slices.Turned
import Derived.Shelf.Slices.Clone
import Derived.Shelf.Slices.Cells
import Derived.Shelf.SlicesE.DeleteFunc
set_option linter.all false
set_option maxHeartbeats 40000000
set_option maxRecDepth 100000
open Go renaming World -> ZB, Calls -> ZE
namespace CH
section
def mix1 (s n:Nat):Nat:=((s ^^^ n)*2862933555777941757) % 18446744073709551616
def mix2 (x:Nat):Nat:=((x ^^^ x / 4294967296)*3935559000370003845) % 18446744073709551616
def Adj (y:Nat):Nat:=y ^^^ y / 536870912
def mix (s n:Nat):Nat:=Adj (mix2 (mix1 s n))
def be8 (l:Q00):Nat := ((((((((l.getD 0 0).toNat*256+(l.getD 1 0).toNat)*256+(l.getD 2 0).toNat)*256+(l.getD 3 0).toNat)*256+(l.getD 4 0).toNat)*256+(l.getD 5 0).toNat)*256+(l.getD 6 0).toNat)*256+(l.getD 7 0).toNat)
def iU:Nat->Nat->Q00->Nat
 |0,s,_=>s
 |k+1,s,l=>iU k (mix s (be8 l)) (l.drop 8)
def CX (l:Q00):Nat:=iU (l.length / 8+1) (2611923443488327891 ^^^ l.length) l
def hexDigit (n:Nat):UInt8:=if n<10 then UInt8.ofNat (48+n) else UInt8.ofNat (87+n)
def iy:Nat->Nat->Q00
 |0,_=>[]
 |k+1,n=>iy k (n / 16)++[hexDigit (n % 16)]
def sum (l:Q00):Q00:=iy 16 (CX l)
theorem uw {a b:Nat} (ha:a<18446744073709551616) (hb:b<18446744073709551616):a ^^^ b<18446744073709551616:=by have:=@Nat.xor_lt_two_pow a b 64 (by simpa using ha) (by simpa using hb);exact FD86
theorem zS (s n:Nat):mix1 s n<18446744073709551616:=Ls _ dC
theorem tJ (x:Nat):mix2 x<18446744073709551616:=Ls _ dC
theorem Adi (s n:Nat):mix s n<18446744073709551616:=by unfold mix Adj;exact uw (tJ _) (Nj (Nat.div_le_self _ _) (tJ _))
theorem oU (k s:Nat) (l:Q00):iU (k+1) s l=mix (iU k s l) (be8 (l.drop (8*k))):=by
 induction k generalizing s l with
 |zero=>simp [iU]
 |succ k ih =>rw [iU,ih,iU,List.drop_drop];congr 3;omega
theorem sU (k s:Nat) (l:Q00) (hs:s<18446744073709551616):iU k s l<18446744073709551616:=by
 cases k with
 |zero=>exact hs
 |succ k=>rw [oU];exact Adi _ _
theorem u8_lt (c:UInt8):c.toNat<256:=c.toNat_lt
theorem FV (l:Q00):be8 l<18446744073709551616:=by unfold be8;have h0:=u8_lt (l.getD 0 0);have h1:=u8_lt (l.getD 1 0);have h2:=u8_lt (l.getD 2 0);have h3:=u8_lt (l.getD 3 0);have h4:=u8_lt (l.getD 4 0);have h5:=u8_lt (l.getD 5 0);have h6:=u8_lt (l.getD 6 0);have h7:=u8_lt (l.getD 7 0);omega
theorem lK (k n:Nat):(iy k n).length=k:=by
 induction k generalizing n with
 |zero=>rfl
 |succ k ih=>simp [iy,ih]
theorem sK (k n:Nat):iy (k+1) n=hexDigit (n / 16 ^ k % 16)::iy k n:=by
 induction k generalizing n with
 |zero=>simp [iy]
 |succ k ih =>rw [iy,ih,iy,Nat.div_div_eq_div_mul,<- Nat.pow_succ'];rfl
theorem yV (j d n:Nat) (h:n<16 ^ d):iy (j+d) n=List.replicate j 48++iy d n:=by
 induction j with
 |zero=>simp
 |succ j ih =>rw [show j+1+d=(j+d)+1 from by omega,sK,ih];have:n / 16 ^ (j+d)=0:=Nv (Af h (J4 dC oM));rw [this];simp [hexDigit,J9]
theorem eH (l:Q00):(sum l).length=16:=lK _ _
def pack (f:Int->Q00):List Q00->Q00
 |[]=>[]
 |l::r=>f l.length++[58]++l++pack f r
theorem sG (f:Int->Q00) (ls:List Q00) (l:Q00):pack f (ls++[l])=pack f ls++(f l.length++[58]++l):=by
 induction ls with
 |nil=>simp [pack]
 |cons x r ih=>simp [pack,ih]
theorem tq (f:Int->Q00) (ls:List Q00) (k:Nat):(pack f (ls.take k)).length<=(pack f ls).length:=by
 induction ls generalizing k with
 |nil=>simp [pack]
 |cons x r ih =>
  cases k with
  |zero=>simp [pack]
  |succ k=>simp only [Hw,pack,Am];have:=ih k;omega
theorem aN {α:Type} (ls:List α) (k:Nat) (l:α) (h:ls[k]?=some l):ls.take (k+1)=ls.take k++[l]:=by rw [Ip,h];rfl
def chain:Nat->Q00->Q00
 |0,l=>l
 |n+1,l=>chain n (sum l)
theorem jQ (n:Nat) (l:Q00):chain (n+1) l=sum (chain n l):=by
 induction n generalizing l with
 |zero=>rfl
 |succ n ih=>rw [chain,ih];rfl
def isHex (c:UInt8):Bool:=(48<=c&&c<=57)||(97<=c&&c<=102)
def aG (l:Q00):Bool:=l.length==16&&l.all isHex
def dl (ls:List Q00):Q00:=sum (pack Go.Lib.itoa ls)
def vU:Q00:=[101,109,112,116,121]
def nN:Q00:=[108,101,97,102]
def wW:Q00:=[110,111,100,101]
def kX:Nat->Nat->Nat->Nat
 |0,_,k=>k
 |f+1,n,k=>if 2*k<n then kX f n (2*k) else k
def half (n:Nat):Nat:=kX n n 1
theorem qV (f n k:Nat) (h:¬ 2*k<n):kX f n k=k:=by
 cases f with
 |zero=>rfl
 |succ f=>simp [kX,h]
theorem Ac0 (f n k:Nat) (h:k<n):kX f n k<n:=by
 induction f generalizing k with
 |zero=>exact h
 |succ f ih =>
  unfold kX;split;·exact ih _ oM
  ·exact h
theorem Ac1 (f n k:Nat):k<=kX f n k:=by
 induction f generalizing k with
 |zero=>exact Au _
 |succ f ih =>
  unfold kX;split;·have:=ih (2*k);omega
  ·exact Au _
theorem jI (n:Nat):1<=half n:=Ac1 _ _ _
theorem jP (n:Nat) (h:2<=n):half n<n:=Ac0 _ _ _ oM
def node (a b:Q00):Q00:=dl [wW,a,b]
def qK:Nat->List Q00->Q00
 |0,_=>[]
 |f+1,ls=>match ls with
  |[]=>dl [vU]
  |[x]=>dl [nN,x]
  |x::y::r=>node (qK f ((x::y::r).take (half (r.length+2)))) (qK f ((x::y::r).drop (half (r.length+2))))
def root (ls:List Q00):Q00:=qK (ls.length+1) ls
theorem Zw (f:Nat):∀ (g:Nat) (ls:List Q00),ls.length<f->ls.length<g->qK f ls=qK g ls:=by
 induction f with
 |zero=>intro g ls h;omega
 |succ f ih =>
  intro g ls hf hg;cases g with
  |zero=>omega
  |succ g =>
   match ls with
   |[]=>rfl
   |[x]=>rfl
   |x::y::r =>have h1:=jI (r.length+2);have h2:=jP (r.length+2) oM;simp only [Ap] at hf hg;simp only [qK];rw [ih g _ naf naf,ih g _ naf naf]
theorem lG (ls:List Q00) (h:2<=ls.length):root ls=node (root (ls.take (half ls.length))) (root (ls.drop (half ls.length))):=by
 match ls,h with
 |x::y::r,_ =>have h1:=jI (r.length+2);have h2:=jP (r.length+2) oM;unfold root;simp only [Ap] at *;rw [qK];rw [Zw (r.length+1+1) (((x::y::r).take (half (r.length+2))).length+1) _ naf oM, Zw (r.length+1+1) (((x::y::r).drop (half (r.length+2))).length+1) _ naf oM]
theorem jA (ls:List Q00):(dl ls).length=16:=eH _
theorem lJ (a b:Q00):(node a b).length=16:=eH _
theorem jO (ls:List Q00):(root ls).length=16:=by
 rcases ls with _|⟨x,_|⟨y,r⟩⟩;·exact jA _
 ·exact jA _
 ·rw [lG _ sM];exact lJ _ _
def iL:Nat->List Q00->Nat->List Q00
 |0,_,_=>[]
 |f+1,ls,i =>
  if ls.length<=1 then []
  else if i<half ls.length then root (ls.drop (half ls.length))::iL f (ls.take (half ls.length)) i
  else root (ls.take (half ls.length))::iL f (ls.drop (half ls.length)) (i - half ls.length)
def path (ls:List Q00) (i:Nat):List Q00:=(iL ls.length ls i).reverse
theorem ni (f:Nat) (ls:List Q00) (i:Nat) (h:2<=ls.length) (hi:i<half ls.length):iL (f+1) ls i=root (ls.drop (half ls.length))::iL f (ls.take (half ls.length)) i:=by rw [iL,Ai oM,Ah hi]
theorem lH (f:Nat) (ls:List Q00) (i:Nat) (h:2<=ls.length) (hi:¬ i<half ls.length):iL (f+1) ls i=root (ls.take (half ls.length))::iL f (ls.drop (half ls.length)) (i - half ls.length):=by rw [iL,Ai oM,Ai hi]
theorem pG (f:Nat) (ls:List Q00) (i:Nat) (h:ls.length<=1):iL f ls i=[]:=by
 cases f with
 |zero=>rfl
 |succ f=>rw [iL,Ah h]
abbrev PSt:=List Q00 × Bool
def gW (s:PSt):Q00 × PSt :=
 match s.1.getLast? with
 |none=>([],([],true))
 |some d=>(d,(s.1.dropLast,s.2||d.isEmpty))
def upF (leaf:Q00):Nat->Nat->Nat->PSt->Q00 × PSt
 |0,_,_,s=>([],s)
 |f+1,n,i,s =>
  if n=1 then (dl [nN,leaf],s)
  else if i<half n then
   (node (upF leaf f (half n) i (gW s).2).1 (gW s).1,(upF leaf f (half n) i (gW s).2).2)
  else
   (node (gW s).1 (upF leaf f (n - half n) (i - half n) (gW s).2).1,(upF leaf f (n - half n) (i - half n) (gW s).2).2)
def dS (root:Q00) (n i:Nat) (leaf:Q00) (path:List Q00):Bool := path.all aG&&((upF leaf n n i (path,false)).1==root&&(!(upF leaf n n i (path,false)).2.2&&(upF leaf n n i (path,false)).2.1.isEmpty))
def start (kq:Q00) (i k:Nat):Q00:=dl [kq,Go.Lib.itoa i,Go.Lib.itoa k]
def kW (kq:Q00) (i:Nat):Q00:=dl ((List.range 18).map fun k=>chain 15 (start kq i k))
def keys (kq:Q00) (h:Nat):List Q00:=(List.range (2 ^ h)).map (kW kq)
def pub (kq:Q00) (h:Nat):Q00:=root (keys kq h)
def Aak (c:UInt8):Nat:=if c.toNat<97 then c.toNat - 48 else c.toNat - 87
def digits (m:Q00):List Nat :=
 let d:=(sum m).map Aak
 let rest:=(d.map fun x=>15 - x).sum
 d++[rest / 16,rest % 16]
def sig (kq:Q00) (i:Nat) (m:Q00):List Q00 := ((digits m).zipIdx).map fun x=>chain x.1 (start kq i x.2)
def ends (s:List Q00) (m:Q00):List Q00 := ((digits m).zip s).map fun x=>chain (15 - x.1) x.2
theorem iM (kq:Q00) (i k:Nat):(start kq i k).length=16:=jA _
theorem og (kq:Q00) (i:Nat):(kW kq i).length=16:=jA _
theorem length_keys (kq:Q00) (h:Nat):(keys kq h).length=2 ^ h:=by simp [keys]
theorem tN (n:Nat) (l:Q00) (h:l.length=16):(chain n l).length=16:=by
 cases n with
 |zero=>exact h
 |succ n=>rw [jQ];exact eH _
theorem oI (n:Nat) (h:n<16):Aak (hexDigit n)=n:=by have:∀ k:Fin 16,Aak (hexDigit k.val)=k.val:=nah;exact this ⟨n,h⟩
def U6:Nat->Nat->List Nat
 |0,_=>[]
 |k+1,n=>U6 k (n / 16)++[n % 16]
theorem Ach (k n:Nat):(iy k n).map Aak=U6 k n:=by
 induction k generalizing n with
 |zero=>rfl
 |succ k ih=>simp only [iy,U6,Gi,ih,Gg,Ja,oI _ (Ls n (dC:0<16))]
theorem Abw (k n:Nat):∀ x∈U6 k n,x<=15:=by
 induction k generalizing n with
 |zero=>simp [U6]
 |succ k ih =>
  intro x hx;rcases Bz.1 hx with h|h;·exact ih _ x h
  ·simp at h;omega
def kF (m:Q00):List Nat:=(sum m).map Aak
theorem dZ (m:Q00):(kF m).length=16:=by simp [kF,eH]
theorem Ac7 (m:Q00):∀ x∈kF m,x<=15:=by unfold kF sum;rw [Ach];exact Abw _ _
def lack (m:Q00) (k:Nat):Nat:=(((kF m).take k).map fun x=>15 - x).sum
theorem Aca {l:List Nat} {c:Nat} (h:∀ x∈l,x<=c):l.sum<=l.length*c:=by
 induction l with
 |nil=>simp
 |cons x r ih =>have h1:=h x sM;have h2:=ih (fun y hy=>h y (by simp [hy]));simp only [Mc,Ap];rw [Nat.add_mul];omega
theorem xw (m:Q00) (k:Nat):lack m k<=240:=by
 have h:=Aca (l:=((kF m).take k).map fun x=>15 - x) (c:=15) (by intro x hx;obtain⟨y,_,rfl⟩:=Ew.1 hx;omega);have hl:(((kF m).take k).map fun x=>15 - x).length<=16:=by rw [Ce,C9,dZ];omega
 unfold lack;have:=Ec 15 hl;omega
theorem yh (m:Q00) (k d:Nat) (h:(kF m)[k]?=some d):lack m (k+1)=lack m k+(15 - d):=by unfold lack;rw [aN _ _ _ h,Gi,List.sum_append];simp
theorem kE (m:Q00):digits m=kF m++[lack m 16 / 16,lack m 16 % 16]:=by
 have:lack m 16=((kF m).map fun x=>15 - x).sum:=by unfold lack;rw [Dz (by rw [dZ];exact Au _)]
 rw [this];rfl
theorem length_digits (m:Q00):(digits m).length=18:=by rw [kE];simp [dZ]
theorem Aa1 (m:Q00):∀ x∈digits m,x<=15:=by
 intro x hx;rw [kE] at hx;have:=xw m 16;rcases Bz.1 hx with h|h;·exact Ac7 m x h
 ·simp at h;omega
def fE (m:Q00):List (Fin 18 × Fin 16):=(List.finRange 18).map fun i=>(i,Fin.ofNat 16 ((digits m).getD i.val 0))
theorem kD (m:Q00) (k d:Nat) (hk:k<18) (h:(digits m)[k]?=some d):∃ hd:d<16,(fE m)[k]?=some (⟨k,hk⟩,⟨d,hd⟩):=by
 have hd:d<16:=by have:=Aa1 m d (Bg h);omega
 refine⟨hd,?_⟩;unfold fE;rw [Es,Ae (by simpa using hk)];have e:(digits m).getD k 0=d:=by simp [h]
 simp only [List.getElem_finRange,Gz,G6,Ib,Fin.cast_mk,true_and];apply Fin.ext;show (digits m).getD k 0 % 16=d;rw [e];omega
theorem dO (m:Q00):(fE m).length=18:=by simp [fE]
end
end CH
namespace Go.Proofs
section
open Go.Proofs.Tryz Go.Shelf CH
def Tryz.lays169_ren:Go.Shelf.Ren:=⟨fun|169=>55|n=>n,fun|70=>117|9=>9|0=>0|72=>120|37=>118|127=>193|3=>3|5=>5|n=>n,fun|n=>n⟩
theorem lays169:Go.Proofs.Lays.n169 prog Tryz.lays169_ren:=lR
theorem Tryz.Builder_Extra_169:Builder.Extra prog Tryz.lays169_ren:=lR
open Go.RowKit CH in
theorem Tryz.Builder_String_any (B b:Nat) (l:Q00) (w:ZB) (h:Lib.IsBuilder 120 5 B b (Lib.byteCells l) w) (hBw:B<=w.heap.size) : ZE prog 55 #[.pointer (some ⟨b,0,none⟩)] w fun e w'=>e=.returned ↑l/\Below B w w':=Any.Builder_String_any lays169 Tryz.Builder_Extra_169 B b l w h hBw
def Tryz.lays159_ren:Go.Shelf.Ren:=⟨fun|159=>295|165=>123|166=>54|167=>148|169=>55|230=>310|204=>311|240=>120|241=>200|197=>202|118=>324|168=>325|270=>326|262=>327|276=>198|277=>252|260=>253|242=>332|313=>333|278=>335|274=>336|275=>337|n=>n,fun|9=>9|4=>4|3=>3|5=>5|72=>120|0=>0|76=>123|75=>122|107=>378|70=>117|20=>20|37=>118|127=>193|21=>21|105=>266|164=>263|162=>397|203=>395|119=>138|46=>222|139=>360|138=>359|51=>216|160=>399|208=>405|206=>403|80=>125|n=>n,fun|13=>10|3=>6|4=>7|n=>n⟩
theorem lays159:Go.Proofs.Lays.n159 prog Tryz.lays159_ren:=lR
theorem Tryz.jR:Builder.Extra prog Tryz.lays159_ren:=lR
def Tryz.lays156_ren:Go.Shelf.Ren:=⟨fun|156=>60|165=>123|166=>54|169=>55|240=>120|241=>200|276=>198|277=>252|n=>n,fun|31=>23|9=>9|3=>3|4=>4|0=>0|20=>20|72=>120|76=>123|70=>117|37=>118|75=>122|127=>193|164=>263|5=>5|80=>125|n=>n,fun|n=>n⟩
theorem lays156:Go.Proofs.Lays.n156 prog Tryz.lays156_ren:=lR
theorem Tryz.Builder_Extra_156:Builder.Extra prog Tryz.lays156_ren:=lR
open Go.RowKit CH in
theorem Tryz.strings_Join_none (a:Option Addr) (c:Nat) (sep:ByteArray) (w:ZB) : ZE prog 60 #[.slice a 0 c,.string sep] w fun e w'=>e=.returned (.string ⟨#[]⟩)/\w'=w:=Any.strings_Join_none lays156 Tryz.Builder_Extra_156 a c sep w
open Go.RowKit CH in
theorem Tryz.strings_Join (bk o c:Nat) (xs:List ByteArray) (sep:ByteArray) (w:ZB) (kj:∀ (j:Nat) x,xs[j]?=some x->w.cell? ⟨bk,o+j,none⟩=some (.string x)) (hbk:bk<w.heap.size) (hN:xs.length<=140737488355328) (hcap:xs.length<=c) (hlen:(Lib.join (xs.map (·.data.toList)) sep.data.toList).length<=140737488355328) : ZE prog 60 #[.slice (some ⟨bk,o,none⟩) xs.length c,.string sep] w fun e w'=>e=.returned (.string ⟨(Lib.join (xs.map (·.data.toList)) sep.data.toList).toArray⟩)/\Below w w w':=Any.strings_Join lays156 Tryz.Builder_Extra_156 bk o c xs sep w kj hbk hN hcap hlen
def Tryz.lays160_ren:Go.Shelf.Ren:=⟨fun|160=>119|232=>192|231=>191|227=>193|234=>195|233=>194|236=>197|235=>196|228=>249|271=>251|151=>250|197=>202|120=>291|152=>289|260=>253|137=>151|119=>309|224=>214|225=>213|217=>212|266=>261|n=>n,fun|9=>9|4=>4|3=>3|5=>5|117=>259|116=>258|0=>0|124=>262|21=>21|105=>266|46=>222|119=>138|139=>360|138=>359|n=>n,fun|3=>6|4=>7|n=>n⟩
theorem lays160:Go.Proofs.Lays.n160 prog Tryz.lays160_ren:=lR
def Tryz.lays119_ren:Go.Shelf.Ren:=⟨fun|119=>309|n=>n,fun|21=>21|4=>4|n=>n,fun|n=>n⟩
theorem lays119:Go.Proofs.Lays.n119 prog Tryz.lays119_ren:=lR
theorem Tryz.utf8_ValidRune (r:Int) (w:ZB) : ZE prog 309 #[.int .i32 r] w fun e w'=>e=.returned (.bool (Lib.validRune r))/\w'=w:=Any.utf8_ValidRune lays119 r w
def Tryz.lays125_ren:Go.Shelf.Ren:=⟨fun|125=>232|128=>280|129=>265|n=>n,fun|46=>222|3=>3|51=>216|53=>154|4=>4|5=>5|9=>9|n=>n,fun|n=>n⟩
theorem lays125:Go.Proofs.Lays.n125 prog Tryz.lays125_ren:=lR
theorem Tryz.bits_Len (x:Int) (w:ZB) (h0:0<=x) (h1:x<=18446744073709551615) : ZE prog 232 #[.int .u64 x] w fun e w'=>e=.returned (.int .i64 (Lib.bitLen x.toNat))/\w'=w:=Any.bits_Len lays125 x w h0 h1
def Tryz.lays137_ren:Go.Shelf.Ren:=⟨fun|137=>151|217=>212|266=>261|n=>n,fun|9=>9|5=>5|3=>3|n=>n,fun|n=>n⟩
theorem lays137:Go.Proofs.Lays.n137 prog Tryz.lays137_ren:=lR
open Go.RowKit CH in
theorem Tryz.strings_IndexByte (s:ByteArray) (c:Int) (w:ZB) : ZE prog 151 #[.string s,.int .u8 c] w fun e w'=>e=.returned (.int .i64 (Lib.indexByte s.data.toList c.toNat.toUInt8))/\w'=w:=Any.strings_IndexByte lays137 s c w
def Tryz.lays172_ren:Go.Shelf.Ren:=⟨fun|172=>62|244=>127|245=>128|247=>204|279=>205|280=>206|281=>207|282=>208|287=>254|316=>255|171=>58|205=>256|321=>292|322=>293|243=>122|246=>199|283=>219|284=>220|285=>221|286=>222|129=>265|317=>264|318=>266|319=>267|320=>268|337=>298|338=>299|n=>n,fun|9=>9|3=>3|75=>122|76=>123|4=>4|5=>5|167=>268|37=>118|0=>0|85=>269|2=>2|168=>271|53=>154|175=>327|46=>222|210=>330|127=>193|145=>364|143=>362|21=>21|171=>292|173=>295|212=>342|51=>216|20=>20|213=>343|232=>380|233=>381|80=>125|n=>n,fun|15=>3|16=>4|17=>5|18=>8|19=>9|n=>n⟩
theorem lays172:Go.Proofs.Lays.n172 prog Tryz.lays172_ren:=lR
open Go.RowKit CH in
theorem Tryz.strconv_Atoi (s:ByteArray) (n:Int) (hl:s.size<=18) (h:Lib.atoi s.data.toList=some n) (w:ZB) : ZE prog 62 #[.string s] w fun e w'=>e=.returned (.tuple #[↑n,.nilIface])/\∃ t,w'=Lib.bytesWorld w 5 t:=Any.strconv_Atoi lays172 s n hl h w
def Tryz.tX:Go.Shelf.Ren:=⟨fun|171=>58|243=>122|246=>199|283=>219|284=>220|285=>221|286=>222|129=>265|317=>264|318=>266|319=>267|320=>268|337=>298|338=>299|n=>n,fun|3=>3|9=>9|2=>2|4=>4|171=>292|0=>0|53=>154|37=>118|5=>5|173=>295|212=>342|51=>216|20=>20|213=>343|46=>222|232=>380|233=>381|n=>n,fun|17=>5|18=>8|19=>9|n=>n⟩
theorem Tryz.laysM171:Go.Proofs.LaysM.n171 prog Tryz.tX:=lR
open Go.RowKit Go.Sort Go.Lib CH in
theorem Tryz.strconv_Itoa (n:Int) (h0:-9223372036854775808<=n) (h1:n<=9223372036854775807) (w:ZB) (htab:Lib.TabIs prog w "internal/strconv.uint64pow10" .u64 Lib.pow10Tab) : ZE prog 58 #[↑n] w fun e w'=>e=.returned (.string ⟨(Lib.itoa n).toArray⟩)/\∃ k os,w'=grow (w.drewN k) os:=Any.strconv_Itoa Tryz.laysM171 n h0 h1 w htab
def Tryz.tY:Go.Shelf.Ren:=⟨fun|172=>62|244=>127|245=>128|247=>204|279=>205|280=>206|281=>207|282=>208|287=>254|316=>255|171=>58|205=>256|321=>292|322=>293|243=>122|246=>199|283=>219|284=>220|285=>221|286=>222|129=>265|317=>264|318=>266|319=>267|320=>268|337=>298|338=>299|n=>n,fun|9=>9|3=>3|75=>122|76=>123|4=>4|5=>5|167=>268|37=>118|0=>0|85=>269|2=>2|168=>271|53=>154|175=>327|46=>222|210=>330|127=>193|145=>364|143=>362|21=>21|171=>292|173=>295|212=>342|51=>216|20=>20|213=>343|232=>380|233=>381|80=>125|n=>n,fun|15=>3|16=>4|17=>5|18=>8|19=>9|n=>n⟩
theorem Tryz.laysC172:Go.Proofs.LaysC.n172 prog Tryz.tY:=lR
open Go.RowKit CH in
theorem Tryz.strconv_Atoi_ok (s:ByteArray) (hmax:s.size<=9223372036854775806) (v:Int) (h:Lib.atoiAll s.data.toList=.ok v) (w:ZB) : ZE prog 62 #[.string s] w fun e w'=>e=.returned (.tuple #[↑v,.nilIface])/\(w'=w\/∃ t,w'=Lib.bytesWorld w 5 t):=Any.strconv_Atoi_ok Tryz.laysC172 s hmax v h w
open Go.RowKit CH in
theorem Tryz.strconv_Atoi_syntax (s:ByteArray) (hlim:s.size<=281474976710656) (h:Lib.atoiAll s.data.toList=Lib.atoiAll []) (ev:Value) (w:ZB) (hv:w.cell? ⟨3,0,none⟩=some ev) (hev:ev=.nilIface\/∃ te pe,ev=.iface te pe) : ZE prog 62 #[.string s] w fun e w'=>∃ N,e=.returned (.tuple #[.int .i64 (0),.iface 271 (.pointer (some ⟨N,0,none⟩))])/\w.heap.size<=N/\w'.heap[N]?=some (.cells #[.string ⟨#[65,116,111,105]⟩,.string s,ev] 330 (0,0))/\Below w w w':=Any.strconv_Atoi_syntax Tryz.laysC172 s hlim h ev w hv hev
open Go.RowKit CH in
theorem Tryz.strconv_Atoi_range (s:ByteArray) (hlim:s.size<=281474976710656) (h:Lib.atoiAll s.data.toList=.range) (ev:Value) (w:ZB) (hv:w.cell? ⟨4,0,none⟩=some ev) (hev:ev=.nilIface\/∃ te pe,ev=.iface te pe) : ZE prog 62 #[.string s] w fun e w'=>∃ N,e=.returned (.tuple #[.int .i64 (Lib.atoiSat s.data.toList),.iface 271 (.pointer (some ⟨N,0,none⟩))])/\w.heap.size<=N/\w'.heap[N]?=some (.cells #[.string ⟨#[65,116,111,105]⟩,.string s,ev] 330 (0,0))/\Below w w w':=Any.strconv_Atoi_range Tryz.laysC172 s hlim h ev w hv hev
def Tryz.lays219_ren:Go.Shelf.Ren:=⟨fun|219=>141|217=>212|225=>213|224=>214|267=>215|266=>261|314=>262|n=>n,fun|9=>9|3=>3|4=>4|5=>5|46=>222|146=>297|51=>216|n=>n,fun|1=>2|n=>n⟩
theorem lays219:Go.Proofs.Lays.n219 prog Tryz.lays219_ren:=lR
open Go.RowKit Go.Lib CH in
theorem Tryz.stringslite_Index_one (s:ByteArray) (c:UInt8) (w:ZB) : ZE prog 141 #[.string s,.string ⟨#[c]⟩] w fun e w'=>e=.returned (.int .i64 (Lib.indexByte s.data.toList c))/\w'=w:=Any.stringslite_Index_one lays219 s c w
def Tryz.lays143_ren:Go.Shelf.Ren:=⟨fun|143=>126|219=>141|217=>212|225=>213|224=>214|267=>215|266=>261|314=>262|n=>n,fun|9=>9|3=>3|4=>4|5=>5|46=>222|146=>297|51=>216|n=>n,fun|1=>2|n=>n⟩
theorem lays143:Go.Proofs.Lays.n143 prog Tryz.lays143_ren:=lR
open Go.RowKit Go.Lib CH in
theorem Tryz.strings_Index_one (s:ByteArray) (c:UInt8) (w:ZB) : ZE prog 126 #[.string s,.string ⟨#[c]⟩] w fun e w'=>e=.returned (.int .i64 (Lib.indexByte s.data.toList c))/\w'=w:=Any.strings_Index_one lays143 s c w
def Tryz.lays138_ren:Go.Shelf.Ren:=⟨fun|138=>125|195=>201|218=>203|143=>126|219=>141|217=>212|225=>213|224=>214|267=>215|266=>261|314=>262|n=>n,fun|9=>9|3=>3|4=>4|5=>5|0=>0|46=>222|146=>297|51=>216|n=>n,fun|1=>2|n=>n⟩
theorem lays138:Go.Proofs.Lays.n138 prog Tryz.lays138_ren:=lR
open Go.RowKit Go.Lib CH in
theorem Tryz.strings_Count_one (s:ByteArray) (c:UInt8) (w:ZB) : ZE prog 125 #[.string s,.string ⟨#[c]⟩] w fun e w'=>e=.returned (.int .i64 (Lib.countByte s.data.toList c))/\w'=w:=Any.strings_Count_one lays138 s c w
def Tryz.lays99_ren:Go.Shelf.Ren:=⟨fun|99=>155|206=>225|n=>n,fun|9=>9|4=>4|3=>3|n=>n,fun|n=>n⟩
theorem lays99:Go.Proofs.Lays.n99 prog Tryz.lays99_ren:=lR
open Go.RowKit Go.Lib CH in
theorem Tryz.strings_HasPrefix (s p:ByteArray) (w:ZB) : ZE prog 155 #[.string s,.string p] w fun e w'=>e=.returned (.bool (Lib.hasPrefix s.data.toList p.data.toList))/\w'=w:=Any.strings_HasPrefix lays99 s p w
def Tryz.lays102_ren:Go.Shelf.Ren:=⟨fun|102=>29|209=>72|207=>142|n=>n,fun|9=>9|4=>4|3=>3|n=>n,fun|n=>n⟩
theorem lays102:Go.Proofs.Lays.n102 prog Tryz.lays102_ren:=lR
open Go.RowKit Go.Lib CH in
theorem Tryz.strings_TrimSuffix (s p:ByteArray) (w:ZB) (hs:s.size<=9223372036854775807) : ZE prog 29 #[.string s,.string p] w fun e w'=>e=.returned (.string ⟨(Lib.trimSuffix s.data.toList p.data.toList).toArray⟩)/\w'=w:=Any.strings_TrimSuffix lays102 s p w hs
def Tryz.lays221_ren:Go.Shelf.Ren:=⟨fun|221=>61|268=>124|138=>125|143=>126|195=>201|197=>202|218=>203|219=>141|260=>253|217=>212|225=>213|224=>214|267=>215|266=>261|314=>262|n=>n,fun|9=>9|3=>3|31=>23|4=>4|0=>0|105=>266|21=>21|5=>5|46=>222|119=>138|139=>360|138=>359|146=>297|51=>216|n=>n,fun|1=>2|3=>6|4=>7|n=>n⟩
theorem lays221:Go.Proofs.Lays.n221 prog Tryz.lays221_ren:=lR
def Tryz.lays157_ren:Go.Shelf.Ren:=⟨fun|157=>31|229=>75|199=>76|261=>143|311=>216|312=>217|n=>n,fun|9=>9|31=>23|3=>3|5=>5|4=>4|119=>138|0=>0|40=>140|152=>213|21=>21|154=>215|51=>216|141=>218|196=>283|193=>280|198=>286|49=>284|194=>281|201=>289|226=>339|46=>222|227=>340|n=>n,fun|0=>0|6=>1|n=>n⟩
theorem lays157:Go.Proofs.Lays.n157 prog Tryz.lays157_ren:=lR
def Tryz.lays199_ren:Go.Shelf.Ren:=⟨fun|199=>76|261=>143|311=>216|312=>217|n=>n,fun|21=>21|4=>4|51=>216|141=>218|0=>0|196=>283|193=>280|3=>3|198=>286|49=>284|194=>281|201=>289|226=>339|46=>222|227=>340|n=>n,fun|6=>1|n=>n⟩
theorem lays199:Go.Proofs.Lays.n199 prog Tryz.lays199_ren:=lR
def Tryz.lays152_ren:Go.Shelf.Ren:=⟨fun|152=>289|137=>151|119=>309|224=>214|225=>213|217=>212|266=>261|n=>n,fun|9=>9|21=>21|3=>3|4=>4|5=>5|0=>0|46=>222|n=>n,fun|n=>n⟩
theorem lays152:Go.Proofs.Lays.n152 prog Tryz.lays152_ren:=lR
open Go.RowKit Go.Lib CH in
theorem Tryz.strings_IndexRune_ascii (s:ByteArray) (r:Int) (w:ZB) (h0:0<=r) (h1:r<128) : ZE prog 289 #[.string s,.int .i32 r] w fun e w'=>e=.returned (.int .i64 (Lib.indexByte s.data.toList r.toNat.toUInt8))/\w'=w:=Any.strings_IndexRune_ascii lays152 s r w h0 h1
def Tryz.lays226_ren:Go.Shelf.Ren:=⟨fun|226=>290|n=>n,fun|3=>3|4=>4|n=>n,fun|n=>n⟩
theorem lays226:Go.Proofs.Lays.n226 prog Tryz.lays226_ren:=lR
open Go.RowKit Go.Lib CH in
theorem Tryz.strings_shouldUseASCIISet (n:Int) (w:ZB) : ZE prog 290 #[↑n] w fun e w'=>e=.returned (.bool (decide (8<n)))/\w'=w:=Any.strings_shouldUseASCIISet lays226 n w
def Tryz.lays153_ren:Go.Shelf.Ren:=⟨fun|153=>248|152=>289|226=>290|227=>193|228=>249|137=>151|119=>309|224=>214|225=>213|217=>212|266=>261|n=>n,fun|9=>9|3=>3|4=>4|5=>5|21=>21|117=>259|116=>258|0=>0|46=>222|124=>262|n=>n,fun|n=>n⟩
theorem lays153:Go.Proofs.Lays.n153 prog Tryz.lays153_ren:=lR
open Go.RowKit Go.Lib CH in
theorem Tryz.strings_IndexAny_long (hv116:∀ w,(zeroValue 258).run prog w=.ok (.agg (Array.replicate 256 (.bool false))) w) (s chars:ByteArray) (w:ZB) (h2:2<=chars.size) (h8:8<s.size) (hs:s.size<4294967281) (hcs:chars.size<4294967281) (hascii:∀ (j:Nat) b,chars.data.toList[j]?=some b->b.toNat<128) : ZE prog 248 #[.string s,.string chars] w fun e w'=>e=.returned (.int .i64 (Lib.indexAny s.data.toList chars.data.toList))/\w'=((w.alloc (.cells (Lib.setCells chars.data.toList) 258)).alloc (.cells (Lib.setCells chars.data.toList) 258)):=Any.strings_IndexAny_long lays153 hv116 kR s chars w h2 h8 hs hcs hascii
def Tryz.lays105_ren:Go.Shelf.Ren:=⟨fun|105=>93|212=>154|99=>155|165=>123|166=>54|170=>156|169=>55|263=>223|264=>224|206=>225|240=>120|241=>200|276=>198|277=>252|n=>n,fun|9=>9|3=>3|4=>4|20=>20|0=>0|46=>222|109=>227|5=>5|72=>120|76=>123|51=>216|146=>297|53=>154|148=>299|70=>117|37=>118|75=>122|127=>193|164=>263|80=>125|n=>n,fun|n=>n⟩
theorem lays105:Go.Proofs.Lays.n105 prog Tryz.lays105_ren:=lR
theorem Tryz.Builder_Extra_105:Builder.Extra prog Tryz.lays105_ren:=lR
open Go.RowKit Go.Lib CH in
theorem Tryz.strings_Repeat (s:ByteArray) (c:Nat) (w:ZB) (hc:c<=9223372036854775807) (hlen:s.size*c<=140737488355328) : ZE prog 93 #[.string s,↑c] w fun e w'=>e=.returned (.string ⟨(Lib.repeatL s.data.toList c).toArray⟩)/\Below w w w':=Any.strings_Repeat lays105 Tryz.Builder_Extra_105 s c w hc hlen
def Tryz.lays260_ren:Go.Shelf.Ren:=⟨fun|260=>253|n=>n,fun|9=>9|21=>21|3=>3|4=>4|5=>5|119=>138|0=>0|46=>222|139=>360|138=>359|n=>n,fun|3=>6|4=>7|n=>n⟩
theorem lays260:Go.Proofs.Lays.n260 prog Tryz.lays260_ren:=lR
open Go.RowKit Go.Lib CH in
theorem Tryz.strings_Fields_any (s:ByteArray) (w:ZB) (hs:s.size<4294967281) (htab:Lib.TabIs prog w "strings.asciiSpace" .u8 Lib.asciiSpaceTab) (hW:Lib.WhiteTab 1 w) : ZE prog 31 #[.string s] w fun e w'=>∃ A,e=.returned (.slice (some ⟨A,0,none⟩) (Lib.fieldsD s.data.toList).length (Lib.fieldsD s.data.toList).length)/\w.heap.size<=A /\ w'.ownsRow w 9 1 (.slice (some ⟨A,0,none⟩) (Lib.fieldsD s.data.toList).length (Lib.fieldsD s.data.toList).length) (Lib.fieldsD s.data.toList).length ((Lib.fieldsD s.data.toList).map fun x=>Value.string ⟨x.toArray⟩)/\Below w w w':=Any.strings_Fields_any lays157 kR kR kR s w hs htab hW
def Tryz.lays274_ren:Go.Shelf.Ren:=⟨fun|274=>336|n=>n,fun|21=>21|162=>397|160=>399|3=>3|4=>4|46=>222|0=>0|208=>405|51=>216|206=>403|n=>n,fun|n=>n⟩
theorem lays274:Go.Proofs.Lays.n274 prog Tryz.lays274_ren:=lR
open Go.RowKit Go.Lib CH in
theorem Tryz.strings_ToLower_any (s:ByteArray) (w:ZB) (hs:s.size<35184372088832) (hV:CaseVar 10 caseA w) (hT:Lib.Utf8Tabs 6 7 w) : ZE prog 295 #[.string s] w fun e w'=>e=.returned (.string ⟨(Lib.toLowerD s.data.toList).toArray⟩)/\Below w w w':=Any.strings_ToLower_any lays159 Tryz.jR s w hs hV hT
def Tryz.lays107_ren:Go.Shelf.Ren:=⟨fun|107=>288|108=>308|n=>n,fun|28=>104|3=>3|4=>4|0=>0|n=>n,fun|n=>n⟩
theorem lays107:Go.Proofs.Lays.n107 prog Tryz.lays107_ren:=lR
open Go.Lib CH in
theorem Tryz.slices_Contains_int (b off n c:Nat) (zs:List Int) (x:Int) (w:ZB) (hz:n<=zs.length) (hbig:n<=9223372036854775807) (hc:∀ j,j<zs.length->w.cell? ⟨b,off+j,none⟩=some (.int .i64 (zs.getD j 0))) : ZE prog 288 #[.slice (some ⟨b,off,none⟩) n c,↑x] w fun e w'=>e=.returned (.bool ((zs.take n).contains x))/\w'=w:=Any.slices_Contains_int lays107 b off n c zs x w hz hbig hc
def Tryz.lays109_ren:Go.Shelf.Ren:=⟨fun|109=>129|n=>n,fun|31=>23|9=>9|3=>3|0=>0|4=>4|n=>n,fun|n=>n⟩
theorem lays109:Go.Proofs.Lays.n109 prog Tryz.lays109_ren:=lR
open Go.Lib CH in
theorem Tryz.slices_Index_string (b off n c:Nat) (zs:List ByteArray) (x:ByteArray) (w:ZB) (hz:n<=zs.length) (hbig:n<=9223372036854775807) (hc:∀ j,j<zs.length->w.cell? ⟨b,off+j,none⟩=some (.string (zs.getD j ByteArray.empty))) : ZE prog 129 #[.slice (some ⟨b,off,none⟩) n c,.string x] w fun e w'=>e=.returned (.int .i64 (Lib.idxOfS (zs.take n) x))/\w'=w:=Any.slices_Index_string lays109 b off n c zs x w hz hbig hc
def Tryz.lays110_ren:Go.Shelf.Ren:=⟨fun|110=>239|109=>129|n=>n,fun|31=>23|9=>9|4=>4|3=>3|0=>0|n=>n,fun|n=>n⟩
theorem lays110:Go.Proofs.Lays.n110 prog Tryz.lays110_ren:=lR
open Go.Lib CH in
theorem Tryz.slices_Contains_string (b off n c:Nat) (zs:List ByteArray) (x:ByteArray) (w:ZB) (hz:n<=zs.length) (hbig:n<=9223372036854775807) (hc:∀ j,j<zs.length->w.cell? ⟨b,off+j,none⟩=some (.string (zs.getD j ByteArray.empty))) : ZE prog 239 #[.slice (some ⟨b,off,none⟩) n c,.string x] w fun e w'=>e=.returned (.bool (Lib.containsS (zs.take n) x))/\w'=w:=Any.slices_Contains_string lays110 b off n c zs x w hz hbig hc
def Tryz.rX:Go.Shelf.Ren:=⟨fun|17=>152|n=>n,fun|24=>23|9=>9|3=>3|4=>4|0=>0|n=>n,fun|n=>n⟩
theorem Tryz.laysNm217:Go.Proofs.Lays2.n17 prog Tryz.rX:=lR
open Go.RowKit Go.Lib Go.Sort CH in
theorem Tryz.slices_Reverse_string_empty (a:Option Addr) (cap:Nat) (w:ZB) : ZE prog 152 #[.slice a 0 cap] w fun e w'=>e=.returned (.tuple #[])/\w'=w:=Any.slices_Reverse_string_empty Tryz.laysNm217 a cap w
def Tryz.rY:Go.Shelf.Ren:=⟨fun|16=>36|n=>n,fun|24=>23|9=>9|4=>4|n=>n,fun|n=>n⟩
theorem Tryz.laysNm216:Go.Proofs.Lays2.n16 prog Tryz.rY:=lR
open Go.RowKit Go.Lib CH in
theorem Tryz.slices_Clone_string (b off n c:Nat) (zs:List ByteArray) (w:ZB) (hz:n<=zs.length) (hbig:n*16<=140737488355328) (hc:∀ j,j<zs.length->w.cell? ⟨b,off+j,none⟩=some (.string (zs.getD j ByteArray.empty))) : ZE prog 36 #[.slice (some ⟨b,off,none⟩) n c] w fun e w'=>∃ v',e=.returned v'/\w'.ownsRow w 9 1 v' n ((zs.take n).map Value.string)/\v'≠.slice none 0 0/\Below w w w':=Any.slices_Clone_string Tryz.laysNm216 b off n c zs w hz hbig hc
open Go.RowKit Go.Lib CH in
theorem Tryz.slices_Clone_string_nil (n c:Nat) (w:ZB) : ZE prog 36 #[.slice none n c] w fun e w'=>e=.returned (.slice none 0 0)/\w'=w:=Any.slices_Clone_string_nil Tryz.laysNm216 n c w
open Go.RowKit Go.Lib CH in
theorem Tryz.slices_Clone_string_zero (a:Addr) (c:Nat) (w:ZB) : ZE prog 36 #[.slice (some a) 0 c] w fun e w'=>∃ v',e=.returned v'/\w'.ownsRow w 9 1 v' 0 []/\v'≠.slice none 0 0/\Below w w w':=Any.slices_Clone_string_zero Tryz.laysNm216 a c w
open Go.RowKit Go.Lib Go.Sort CH in
theorem Tryz.slices_Reverse_string_cells (b off n c:Nat) (Sx:Nat->ByteArray) (w:ZB) (hbig:n<=9223372036854775807) (hc:∀ i,i<n->w.cell? ⟨b,off+i,none⟩=some (.string (Sx i))) (hf:∀ j,j<n->w.frozen? ⟨b,off+j,none⟩=false) : ZE prog 152 #[.slice (some ⟨b,off,none⟩) n c] w fun e w'=>e=.returned (.tuple #[])/\∃ q,w'=(w.drewN q).setCells b off ((Lib.strsOf Sx n).reverse.map encStr):=Any.slices_Reverse_string_cells Tryz.laysNm217 b off n c Sx w hbig hc hf
def Tryz.oh:Go.Shelf.Ren:=⟨fun|10=>73|6=>121|n=>n,fun|22=>23|23=>9|25=>112|3=>3|4=>4|0=>0|n=>n,fun|n=>n⟩
theorem Tryz.rW:Go.Proofs.SlLaysH.n10 prog Tryz.oh:={
 mixed:=kR
 f6:=⟨Tryz.f121.name,dC,func121.trans (congrArg some kR)⟩
 f10:=⟨Tryz.f73.name,dC,func73.trans (congrArg some kR)⟩
 t0:=underlying0
 a0:=isAgg0
 z0:=sizeOf0
 v0:=zeroValue0
 t3:=underlying3
 a3:=isAgg3
 z3:=sizeOf3
 v3:=zeroValue3
 t4:=underlying4
 a4:=isAgg4
 z4:=sizeOf4
 v4:=zeroValue4
 t22:=underlying23
 a22:=isAgg23
 z22:=sizeOf23
 v22:=zeroValue23
 a23:=isAgg9
 z23:=sizeOf9
 t25:=underlying112
 a25:=isAgg112
 z25:=sizeOf112
 v25:=zeroValue112 }
open Go.RowKit Go.Lib Go.Sort CH in
theorem Tryz.slices_DeleteFunc {α:Type} [Inhabited α] (enc:α->Value) (hO:OneCell enc) (p:α->Bool) (g:Nat) (lb:Array Value) (eg:∀ args w,(callFunc g args).run prog w=.ok (.enter g args) w) (zr:α) (v23:∀ w,(zeroValue 9).run prog w=.ok (enc zr) w) (blk off cap:Nat) (d:Array α) (w:ZB) (hp:PredAt prog g lb enc p w) (hpo:PredOver prog g lb enc p blk off d.size w) (hH:Holds enc w blk off d) (hsz:d.size<=9223372036854775807) (hcap:d.size<=cap) : ZE prog 73 #[.slice (some ⟨blk,off,none⟩) d.size cap,.func (.func g) #[] lb] w fun e w'=>e=.returned (.slice (some ⟨blk,off,none⟩) (d.toList.filter fun x=>!p x).length cap)/\∃ q,w'=putRow enc (Sort.ahead w q) blk off ((d.toList.filter fun x=>!p x)++List.replicate (d.size - (d.toList.filter fun x=>!p x).length) zr).toArray:=AnyE.slices_DeleteFunc Tryz.rW enc hO p g lb eg zr v23 blk off cap d w hp hpo hH hsz hcap
end
end Go.Proofs

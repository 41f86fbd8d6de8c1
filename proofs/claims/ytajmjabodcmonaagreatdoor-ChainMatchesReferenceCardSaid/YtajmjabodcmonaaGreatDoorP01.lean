/- ChainMatch, part 2 of 26. -/
import Derived.Test.YtajmjabodcmonaaGreatDoorP00
import Derived.Shelf.Strings.Trim
import Derived.Shelf.Small.Wraps
import Derived.Shelf.Strconv.Itoa3
import Derived.Shelf.Strconv.ErrVarAll
import Derived.Shelf.Unicode.Latin
import Derived.Shelf.Strings.IndexAnyAll
import Derived.Shelf.Strings.Repeat
import Derived.Shelf.Strings.CaseAny
import Derived.Shelf.Slices.Turned
import Derived.Shelf.Slices.Clone
import Derived.Shelf.Slices.Cells
set_option linter.all false
set_option maxHeartbeats 40000000
set_option maxRecDepth 100000
open Go renaming World -> ZB, Calls -> ZE
namespace CH
section
def mix1 (s n:Nat):Nat:=((s ^^^ n)*2862933555777941757) % 18446744073709551616
def mix2 (x:Nat):Nat:=((x ^^^ x / 4294967296)*3935559000370003845) % 18446744073709551616
def mix3 (y:Nat):Nat:=y ^^^ y / 536870912
def mix (s n:Nat):Nat:=mix3 (mix2 (mix1 s n))
def be8 (l:Q00):Nat := ((((((((l.getD 0 0).toNat*256+(l.getD 1 0).toNat)*256+(l.getD 2 0).toNat)*256+(l.getD 3 0).toNat)*256+(l.getD 4 0).toNat)*256+(l.getD 5 0).toNat)*256+(l.getD 6 0).toNat)*256+(l.getD 7 0).toNat)
def fP:Nat->Nat->Q00->Nat
 |0,s,_=>s
 |k+1,s,l=>fP k (mix s (be8 l)) (l.drop 8)
def yS (l:Q00):Nat:=fP (l.length / 8+1) (2611923443488327891 ^^^ l.length) l
def hexDigit (n:Nat):UInt8:=if n<10 then UInt8.ofNat (48+n) else UInt8.ofNat (87+n)
def gy:Nat->Nat->Q00
 |0,_=>[]
 |k+1,n=>gy k (n / 16)++[hexDigit (n % 16)]
def sum (l:Q00):Q00:=gy 16 (yS l)
theorem mM {a b:Nat} (ha:a<18446744073709551616) (hb:b<18446744073709551616):a ^^^ b<18446744073709551616:=by have:=@Nat.xor_lt_two_pow a b 64 (by simpa using ha) (by simpa using hb);exact FD159
theorem xJ (s n:Nat):mix1 s n<18446744073709551616:=J3 _ dC
theorem qI (x:Nat):mix2 x<18446744073709551616:=J3 _ dC
theorem Abc (s n:Nat):mix s n<18446744073709551616:=by unfold mix mix3;exact mM (qI _) (J4 (Nat.div_le_self _ _) (qI _))
theorem jX (k s:Nat) (l:Q00):fP (k+1) s l=mix (fP k s l) (be8 (l.drop (8*k))):=by
 induction k generalizing s l with
 |zero=>simp [fP]
 |succ k ih =>rw [fP,ih,fP,List.drop_drop];congr 3;omega
theorem lF (k s:Nat) (l:Q00) (hs:s<18446744073709551616):fP k s l<18446744073709551616:=by
 cases k with
 |zero=>exact hs
 |succ k=>rw [jX];exact Abc _ _
theorem u8_lt (c:UInt8):c.toNat<256:=c.toNat_lt
theorem xg (l:Q00):be8 l<18446744073709551616:=by unfold be8;have h0:=u8_lt (l.getD 0 0);have h1:=u8_lt (l.getD 1 0);have h2:=u8_lt (l.getD 2 0);have h3:=u8_lt (l.getD 3 0);have h4:=u8_lt (l.getD 4 0);have h5:=u8_lt (l.getD 5 0);have h6:=u8_lt (l.getD 6 0);have h7:=u8_lt (l.getD 7 0);omega
theorem jA (k n:Nat):(gy k n).length=k:=by
 induction k generalizing n with
 |zero=>rfl
 |succ k ih=>simp [gy,ih]
theorem nY (k n:Nat):gy (k+1) n=hexDigit (n / 16 ^ k % 16)::gy k n:=by
 induction k generalizing n with
 |zero=>simp [gy]
 |succ k ih =>rw [gy,ih,gy,Nat.div_div_eq_div_mul,<- Nat.pow_succ'];rfl
theorem wH (j d n:Nat) (h:n<16 ^ d):gy (j+d) n=List.replicate j 48++gy d n:=by
 induction j with
 |zero=>simp
 |succ j ih =>rw [show j+1+d=(j+d)+1 from by omega,nY,ih];have:n / 16 ^ (j+d)=0:=Nb (Ae h (Kr dC oM));rw [this];simp [hexDigit,Ky]
theorem dL (l:Q00):(sum l).length=16:=jA _ _
def pack (f:Int->Q00):List Q00->Q00
 |[]=>[]
 |l::r=>f l.length++[58]++l++pack f r
theorem lC (f:Int->Q00) (ls:List Q00) (l:Q00):pack f (ls++[l])=pack f ls++(f l.length++[58]++l):=by
 induction ls with
 |nil=>simp [pack]
 |cons x r ih=>simp [pack,ih]
theorem mQ (f:Int->Q00) (ls:List Q00) (k:Nat):(pack f (ls.take k)).length<=(pack f ls).length:=by
 induction ls generalizing k with
 |nil=>simp [pack]
 |cons x r ih =>
  cases k with
  |zero=>simp [pack]
  |succ k=>simp only [Jh,pack,Ah];have:=ih k;omega
theorem aI {α:Type} (ls:List α) (k:Nat) (l:α) (h:ls[k]?=some l):ls.take (k+1)=ls.take k++[l]:=by rw [D7,h];rfl
def chain:Nat->Q00->Q00
 |0,l=>l
 |n+1,l=>chain n (sum l)
theorem iP (n:Nat) (l:Q00):chain (n+1) l=sum (chain n l):=by
 induction n generalizing l with
 |zero=>rfl
 |succ n ih=>rw [chain,ih];rfl
def isHex (c:UInt8):Bool:=(48<=c&&c<=57)||(97<=c&&c<=102)
def ay (l:Q00):Bool:=l.length==16&&l.all isHex
def dl (ls:List Q00):Q00:=sum (pack Go.Lib.itoa ls)
def sQ:Q00:=[101,109,112,116,121]
def iV:Q00:=[108,101,97,102]
def rG:Q00:=[110,111,100,101]
def jC:Nat->Nat->Nat->Nat
 |0,_,k=>k
 |f+1,n,k=>if 2*k<n then jC f n (2*k) else k
def half (n:Nat):Nat:=jC n n 1
theorem mF (f n k:Nat) (h:¬ 2*k<n):jC f n k=k:=by
 cases f with
 |zero=>rfl
 |succ f=>simp [jC,h]
theorem Aa4 (f n k:Nat) (h:k<n):jC f n k<n:=by
 induction f generalizing k with
 |zero=>exact h
 |succ f ih =>
  unfold jC;split;·exact ih _ oM
  ·exact h
theorem Aa5 (f n k:Nat):k<=jC f n k:=by
 induction f generalizing k with
 |zero=>exact Bg _
 |succ f ih =>
  unfold jC;split;·have:=ih (2*k);omega
  ·exact Bg _
theorem jo (n:Nat):1<=half n:=Aa5 _ _ _
theorem jB (n:Nat) (h:2<=n):half n<n:=Aa4 _ _ _ oM
def node (a b:Q00):Q00:=dl [rG,a,b]
def oQ:Nat->List Q00->Q00
 |0,_=>[]
 |f+1,ls=>match ls with
  |[]=>dl [sQ]
  |[x]=>dl [iV,x]
  |x::y::r=>node (oQ f ((x::y::r).take (half (r.length+2)))) (oQ f ((x::y::r).drop (half (r.length+2))))
def root (ls:List Q00):Q00:=oQ (ls.length+1) ls
theorem Xk (f:Nat):∀ (g:Nat) (ls:List Q00),ls.length<f->ls.length<g->oQ f ls=oQ g ls:=by
 induction f with
 |zero=>intro g ls h;omega
 |succ f ih =>
  intro g ls hf hg;cases g with
  |zero=>omega
  |succ g =>
   match ls with
   |[]=>rfl
   |[x]=>rfl
   |x::y::r =>have h1:=jo (r.length+2);have h2:=jB (r.length+2) oM;simp only [A8] at hf hg;simp only [oQ];rw [ih g _ (by simp;omega) (by simp;omega),ih g _ (by simp;omega) (by simp;omega)]
theorem kK (ls:List Q00) (h:2<=ls.length):root ls=node (root (ls.take (half ls.length))) (root (ls.drop (half ls.length))):=by
 match ls,h with
 |x::y::r,_ =>
  have h1:=jo (r.length+2);have h2:=jB (r.length+2) oM;unfold root;simp only [A8] at *;rw [oQ];rw [Xk (r.length+1+1) (((x::y::r).take (half (r.length+2))).length+1) _ (by simp;omega) oM,
   Xk (r.length+1+1) (((x::y::r).drop (half (r.length+2))).length+1) _ (by simp;omega) oM]
theorem gZ (ls:List Q00):(dl ls).length=16:=dL _
theorem jy (a b:Q00):(node a b).length=16:=dL _
theorem jw (ls:List Q00):(root ls).length=16:=by
 rcases ls with _|⟨x,_|⟨y,r⟩⟩;·exact gZ _
 ·exact gZ _
 ·rw [kK _ sM];exact jy _ _
def iq:Nat->List Q00->Nat->List Q00
 |0,_,_=>[]
 |f+1,ls,i =>
  if ls.length<=1 then []
  else if i<half ls.length then root (ls.drop (half ls.length))::iq f (ls.take (half ls.length)) i
  else root (ls.take (half ls.length))::iq f (ls.drop (half ls.length)) (i - half ls.length)
def path (ls:List Q00) (i:Nat):List Q00:=(iq ls.length ls i).reverse
theorem lZ (f:Nat) (ls:List Q00) (i:Nat) (h:2<=ls.length) (hi:i<half ls.length):iq (f+1) ls i=root (ls.drop (half ls.length))::iq f (ls.take (half ls.length)) i:=by rw [iq,Ai oM,Au hi]
theorem kM (f:Nat) (ls:List Q00) (i:Nat) (h:2<=ls.length) (hi:¬ i<half ls.length):iq (f+1) ls i=root (ls.take (half ls.length))::iq f (ls.drop (half ls.length)) (i - half ls.length):=by rw [iq,Ai oM,Ai hi]
theorem nU (f:Nat) (ls:List Q00) (i:Nat) (h:ls.length<=1):iq f ls i=[]:=by
 cases f with
 |zero=>rfl
 |succ f=>rw [iq,Au h]
abbrev PSt:=List Q00 × Bool
def gU (s:PSt):Q00 × PSt :=
 match s.1.getLast? with
 |none=>([],([],true))
 |some d=>(d,(s.1.dropLast,s.2||d.isEmpty))
def upF (leaf:Q00):Nat->Nat->Nat->PSt->Q00 × PSt
 |0,_,_,s=>([],s)
 |f+1,n,i,s =>
  if n=1 then (dl [iV,leaf],s)
  else if i<half n then
   (node (upF leaf f (half n) i (gU s).2).1 (gU s).1,(upF leaf f (half n) i (gU s).2).2)
  else
   (node (gU s).1 (upF leaf f (n - half n) (i - half n) (gU s).2).1,(upF leaf f (n - half n) (i - half n) (gU s).2).2)
def dF (root:Q00) (n i:Nat) (leaf:Q00) (path:List Q00):Bool := path.all ay&&((upF leaf n n i (path,false)).1==root&&(!(upF leaf n n i (path,false)).2.2&&(upF leaf n n i (path,false)).2.1.isEmpty))
def start (ky:Q00) (i k:Nat):Q00:=dl [ky,Go.Lib.itoa i,Go.Lib.itoa k]
def jZ (ky:Q00) (i:Nat):Q00:=dl ((List.range 18).map fun k=>chain 15 (start ky i k))
def keys (ky:Q00) (h:Nat):List Q00:=(List.range (2 ^ h)).map (jZ ky)
def pub (ky:Q00) (h:Nat):Q00:=root (keys ky h)
def hexVal (c:UInt8):Nat:=if c.toNat<97 then c.toNat - 48 else c.toNat - 87
def digits (m:Q00):List Nat :=
 let d:=(sum m).map hexVal
 let rest:=(d.map fun x=>15 - x).sum
 d++[rest / 16,rest % 16]
def sig (ky:Q00) (i:Nat) (m:Q00):List Q00 := ((digits m).zipIdx).map fun x=>chain x.1 (start ky i x.2)
def ends (s:List Q00) (m:Q00):List Q00 := ((digits m).zip s).map fun x=>chain (15 - x.1) x.2
theorem iw (ky:Q00) (i k:Nat):(start ky i k).length=16:=gZ _
theorem mX (ky:Q00) (i:Nat):(jZ ky i).length=16:=gZ _
theorem length_keys (ky:Q00) (h:Nat):(keys ky h).length=2 ^ h:=by simp [keys]
theorem qL (n:Nat) (l:Q00) (h:l.length=16):(chain n l).length=16:=by
 cases n with
 |zero=>exact h
 |succ n=>rw [iP];exact dL _
theorem nI (n:Nat) (h:n<16):hexVal (hexDigit n)=n:=by
 have:∀ k:Fin 16,hexVal (hexDigit k.val)=k.val:=by decide +kernel
 exact this ⟨n,h⟩
def Ry:Nat->Nat->List Nat
 |0,_=>[]
 |k+1,n=>Ry k (n / 16)++[n % 16]
theorem Aav (k n:Nat):(gy k n).map hexVal=Ry k n:=by
 induction k generalizing n with
 |zero=>rfl
 |succ k ih=>simp only [gy,Ry,Ep,ih,Fa,Iq,nI _ (J3 n (dC:0<16))]
theorem Aam (k n:Nat):∀ x∈Ry k n,x<=15:=by
 induction k generalizing n with
 |zero=>simp [Ry]
 |succ k ih =>
  intro x hx;rcases Dp.1 hx with h|h;·exact ih _ x h
  ·simp at h;omega
def iO (m:Q00):List Nat:=(sum m).map hexVal
theorem dQ (m:Q00):(iO m).length=16:=by simp [iO,dL]
theorem rY (m:Q00):∀ x∈iO m,x<=15:=by unfold iO sum;rw [Aav];exact Aam _ _
def lack (m:Q00) (k:Nat):Nat:=(((iO m).take k).map fun x=>15 - x).sum
theorem Aat {l:List Nat} {c:Nat} (h:∀ x∈l,x<=c):l.sum<=l.length*c:=by
 induction l with
 |nil=>simp
 |cons x r ih =>have h1:=h x sM;have h2:=ih (fun y hy=>h y (by simp [hy]));simp only [Nc,A8];rw [Nat.add_mul];omega
theorem qN (m:Q00) (k:Nat):lack m k<=240:=by
 have h:=Aat (l:=((iO m).take k).map fun x=>15 - x) (c:=15) (by intro x hx;obtain⟨y,_,rfl⟩:=Dz.1 hx;omega);have hl:(((iO m).take k).map fun x=>15 - x).length<=16:=by rw [Bh,C9,dQ];omega
 unfold lack;have:=Dh 15 hl;omega
theorem qA (m:Q00) (k d:Nat) (h:(iO m)[k]?=some d):lack m (k+1)=lack m k+(15 - d):=by unfold lack;rw [aI _ _ _ h,Ep,List.sum_append];simp
theorem ji (m:Q00):digits m=iO m++[lack m 16 / 16,lack m 16 % 16]:=by
 have:lack m 16=((iO m).map fun x=>15 - x).sum:=by unfold lack;rw [Bz (by rw [dQ];exact Bg _)]
 rw [this];rfl
theorem length_digits (m:Q00):(digits m).length=18:=by rw [ji];simp [dQ]
theorem oh (m:Q00):∀ x∈digits m,x<=15:=by
 intro x hx;rw [ji] at hx;have:=qN m 16;rcases Dp.1 hx with h|h;·exact rY m x h
 ·simp at h;omega
def eX (m:Q00):List (Fin 18 × Fin 16):=(List.finRange 18).map fun i=>(i,Fin.ofNat 16 ((digits m).getD i.val 0))
theorem jQ (m:Q00) (k d:Nat) (hk:k<18) (h:(digits m)[k]?=some d):∃ hd:d<16,(eX m)[k]?=some (⟨k,hk⟩,⟨d,hd⟩):=by
 have hd:d<16:=by have:=oh m d (Ap h);omega
 refine⟨hd,?_⟩;unfold eX;rw [Dq,Ad (by simpa using hk)];have e:(digits m).getD k 0=d:=by simp [h]
 simp only [List.getElem_finRange,Gq,Fe,Hu,Fin.cast_mk,true_and];apply Fin.ext;show (digits m).getD k 0 % 16=d;rw [e];omega
theorem dS (m:Q00):(eX m).length=18:=by simp [eX]
end
end CH
namespace Go.Proofs
section
open Go.Proofs.Tryz Go.Shelf CH
def Tryz.lays169_ren:Go.Shelf.Ren:=⟨fun|169=>69|n=>n,fun|70=>124|9=>9|0=>0|72=>127|37=>125|127=>188|3=>3|5=>5|n=>n,fun|n=>n⟩
theorem lays169:Go.Proofs.Lays.n169 prog Tryz.lays169_ren:=lR
theorem Tryz.Builder_Extra_169:Builder.Extra prog Tryz.lays169_ren:=lR
open Go.RowKit CH in
theorem Tryz.Builder_String_any (B b:Nat) (l:Q00) (w:ZB) (h:Lib.IsBuilder 127 5 B b (Lib.byteCells l) w) (hBw:B<=w.heap.size) : ZE prog 69 #[.pointer (some ⟨b,0,none⟩)] w fun e w'=>e=.returned ↑l/\Below B w w':=Any.Builder_String_any lays169 Tryz.Builder_Extra_169 B b l w h hBw
def Tryz.lays159_ren:Go.Shelf.Ren:=⟨fun|159=>337|165=>155|166=>68|167=>148|169=>69|230=>351|204=>352|240=>124|241=>233|197=>253|118=>360|168=>361|270=>362|262=>363|276=>196|277=>290|260=>305|242=>365|313=>366|278=>367|274=>368|275=>369|n=>n,fun|9=>9|4=>4|3=>3|5=>5|72=>127|0=>0|76=>130|75=>129|107=>350|70=>124|20=>20|37=>125|127=>188|21=>21|105=>284|164=>246|162=>364|203=>362|119=>329|46=>201|139=>332|138=>331|51=>261|160=>365|208=>371|206=>369|80=>132|n=>n,fun|13=>8|3=>2|4=>3|n=>n⟩
theorem lays159:Go.Proofs.Lays.n159 prog Tryz.lays159_ren:=lR
theorem Tryz.jG:Builder.Extra prog Tryz.lays159_ren:=lR
def Tryz.lays156_ren:Go.Shelf.Ren:=⟨fun|156=>102|165=>155|166=>68|169=>69|240=>124|241=>233|276=>196|277=>290|n=>n,fun|31=>22|9=>9|3=>3|4=>4|0=>0|20=>20|72=>127|76=>130|70=>124|37=>125|75=>129|127=>188|164=>246|5=>5|80=>132|n=>n,fun|n=>n⟩
theorem lays156:Go.Proofs.Lays.n156 prog Tryz.lays156_ren:=lR
theorem Tryz.Builder_Extra_156:Builder.Extra prog Tryz.lays156_ren:=lR
open Go.RowKit CH in
theorem Tryz.strings_Join_none (a:Option Addr) (c:Nat) (sep:ByteArray) (w:ZB) : ZE prog 102 #[.slice a 0 c,.string sep] w fun e w'=>e=.returned (.string ⟨#[]⟩)/\w'=w:=Any.strings_Join_none lays156 Tryz.Builder_Extra_156 a c sep w
open Go.RowKit CH in
theorem Tryz.strings_Join (bk o c:Nat) (xs:List ByteArray) (sep:ByteArray) (w:ZB) (kj:∀ (j:Nat) x,xs[j]?=some x->w.cell? ⟨bk,o+j,none⟩=some (.string x)) (hbk:bk<w.heap.size) (hN:xs.length<=140737488355328) (hcap:xs.length<=c) (hlen:(Lib.join (xs.map (·.data.toList)) sep.data.toList).length<=140737488355328) : ZE prog 102 #[.slice (some ⟨bk,o,none⟩) xs.length c,.string sep] w fun e w'=>e=.returned (.string ⟨(Lib.join (xs.map (·.data.toList)) sep.data.toList).toArray⟩)/\Below w w w':=Any.strings_Join lays156 Tryz.Builder_Extra_156 bk o c xs sep w kj hbk hN hcap hlen
def Tryz.lays160_ren:Go.Shelf.Ren:=⟨fun|160=>118|232=>186|231=>185|227=>187|234=>189|233=>188|236=>191|235=>190|228=>252|271=>255|151=>254|197=>253|120=>306|152=>303|260=>305|137=>150|119=>330|224=>331|225=>332|217=>225|266=>285|n=>n,fun|9=>9|4=>4|3=>3|5=>5|117=>236|116=>235|0=>0|124=>239|21=>21|105=>284|46=>201|119=>329|139=>332|138=>331|n=>n,fun|3=>2|4=>3|n=>n⟩
theorem lays160:Go.Proofs.Lays.n160 prog Tryz.lays160_ren:=lR
def Tryz.lays119_ren:Go.Shelf.Ren:=⟨fun|119=>330|n=>n,fun|21=>21|4=>4|n=>n,fun|n=>n⟩
theorem lays119:Go.Proofs.Lays.n119 prog Tryz.lays119_ren:=lR
theorem Tryz.utf8_ValidRune (r:Int) (w:ZB) : ZE prog 330 #[.int .i32 r] w fun e w'=>e=.returned (.bool (Lib.validRune r))/\w'=w:=Any.utf8_ValidRune lays119 r w
def Tryz.lays125_ren:Go.Shelf.Ren:=⟨fun|125=>224|128=>283|129=>284|n=>n,fun|46=>201|3=>3|51=>261|53=>155|4=>4|5=>5|9=>9|n=>n,fun|n=>n⟩
theorem lays125:Go.Proofs.Lays.n125 prog Tryz.lays125_ren:=lR
theorem Tryz.bits_Len (x:Int) (w:ZB) (h0:0<=x) (h1:x<=18446744073709551615) : ZE prog 224 #[.int .u64 x] w fun e w'=>e=.returned (.int .i64 (Lib.bitLen x.toNat))/\w'=w:=Any.bits_Len lays125 x w h0 h1
def Tryz.lays137_ren:Go.Shelf.Ren:=⟨fun|137=>150|217=>225|266=>285|n=>n,fun|9=>9|5=>5|3=>3|n=>n,fun|n=>n⟩
theorem lays137:Go.Proofs.Lays.n137 prog Tryz.lays137_ren:=lR
open Go.RowKit CH in
theorem Tryz.strings_IndexByte (s:ByteArray) (c:Int) (w:ZB) : ZE prog 150 #[.string s,.int .u8 c] w fun e w'=>e=.returned (.int .i64 (Lib.indexByte s.data.toList c.toNat.toUInt8))/\w'=w:=Any.strings_IndexByte lays137 s c w
def Tryz.lays172_ren:Go.Shelf.Ren:=⟨fun|172=>250|244=>301|245=>302|247=>325|279=>326|280=>327|281=>328|282=>329|287=>347|316=>348|171=>100|205=>349|321=>357|322=>358|243=>162|246=>238|283=>226|284=>227|285=>228|286=>229|129=>284|317=>286|318=>287|319=>288|320=>289|337=>318|338=>319|n=>n,fun|9=>9|3=>3|75=>129|76=>130|4=>4|5=>5|167=>322|37=>125|0=>0|85=>323|2=>2|168=>325|53=>155|175=>343|46=>201|210=>346|127=>188|145=>356|143=>354|21=>21|171=>256|173=>259|212=>300|51=>261|20=>20|213=>301|232=>335|233=>336|80=>132|n=>n,fun|15=>6|16=>7|17=>0|18=>4|19=>5|n=>n⟩
theorem lays172:Go.Proofs.Lays.n172 prog Tryz.lays172_ren:=lR
open Go.RowKit CH in
theorem Tryz.strconv_Atoi (s:ByteArray) (n:Int) (hl:s.size<=18) (h:Lib.atoi s.data.toList=some n) (w:ZB) : ZE prog 250 #[.string s] w fun e w'=>e=.returned (.tuple #[↑n,.nilIface])/\∃ t,w'=Lib.bytesWorld w 5 t:=Any.strconv_Atoi lays172 s n hl h w
def Tryz.qM:Go.Shelf.Ren:=⟨fun|171=>100|243=>162|246=>238|283=>226|284=>227|285=>228|286=>229|129=>284|317=>286|318=>287|319=>288|320=>289|337=>318|338=>319|n=>n,fun|3=>3|9=>9|2=>2|4=>4|171=>256|0=>0|53=>155|37=>125|5=>5|173=>259|212=>300|51=>261|20=>20|213=>301|46=>201|232=>335|233=>336|n=>n,fun|17=>0|18=>4|19=>5|n=>n⟩
theorem Tryz.laysM171:Go.Proofs.LaysM.n171 prog Tryz.qM:=lR
open Go.RowKit Go.Sort Go.Lib CH in
theorem Tryz.strconv_Itoa (n:Int) (h0:-9223372036854775808<=n) (h1:n<=9223372036854775807) (w:ZB) (htab:Lib.TabIs prog w "internal/strconv.uint64pow10" .u64 Lib.pow10Tab) : ZE prog 100 #[↑n] w fun e w'=>e=.returned (.string ⟨(Lib.itoa n).toArray⟩)/\∃ k os,w'=grow (w.drewN k) os:=Any.strconv_Itoa Tryz.laysM171 n h0 h1 w htab
def Tryz.lays99_ren:Go.Shelf.Ren:=⟨fun|99=>154|206=>232|n=>n,fun|9=>9|4=>4|3=>3|n=>n,fun|n=>n⟩
theorem lays99:Go.Proofs.Lays.n99 prog Tryz.lays99_ren:=lR
open Go.RowKit Go.Lib CH in
theorem Tryz.strings_HasPrefix (s p:ByteArray) (w:ZB) : ZE prog 154 #[.string s,.string p] w fun e w'=>e=.returned (.bool (Lib.hasPrefix s.data.toList p.data.toList))/\w'=w:=Any.strings_HasPrefix lays99 s p w
def Tryz.lays152_ren:Go.Shelf.Ren:=⟨fun|152=>303|137=>150|119=>330|224=>331|225=>332|217=>225|266=>285|n=>n,fun|9=>9|21=>21|3=>3|4=>4|5=>5|0=>0|46=>201|n=>n,fun|n=>n⟩
theorem lays152:Go.Proofs.Lays.n152 prog Tryz.lays152_ren:=lR
open Go.RowKit Go.Lib CH in
theorem Tryz.strings_IndexRune_ascii (s:ByteArray) (r:Int) (w:ZB) (h0:0<=r) (h1:r<128) : ZE prog 303 #[.string s,.int .i32 r] w fun e w'=>e=.returned (.int .i64 (Lib.indexByte s.data.toList r.toNat.toUInt8))/\w'=w:=Any.strings_IndexRune_ascii lays152 s r w h0 h1
def Tryz.lays226_ren:Go.Shelf.Ren:=⟨fun|226=>304|n=>n,fun|3=>3|4=>4|n=>n,fun|n=>n⟩
theorem lays226:Go.Proofs.Lays.n226 prog Tryz.lays226_ren:=lR
open Go.RowKit Go.Lib CH in
theorem Tryz.strings_shouldUseASCIISet (n:Int) (w:ZB) : ZE prog 304 #[↑n] w fun e w'=>e=.returned (.bool (decide (8<n)))/\w'=w:=Any.strings_shouldUseASCIISet lays226 n w
def Tryz.lays153_ren:Go.Shelf.Ren:=⟨fun|153=>251|152=>303|226=>304|227=>187|228=>252|137=>150|119=>330|224=>331|225=>332|217=>225|266=>285|n=>n,fun|9=>9|3=>3|4=>4|5=>5|21=>21|117=>236|116=>235|0=>0|46=>201|124=>239|n=>n,fun|n=>n⟩
theorem lays153:Go.Proofs.Lays.n153 prog Tryz.lays153_ren:=lR
open Go.RowKit Go.Lib CH in
theorem Tryz.strings_IndexAny_long (hv116:∀ w,(zeroValue 235).run prog w=.ok (.agg (Array.replicate 256 (.bool false))) w) (s chars:ByteArray) (w:ZB) (h2:2<=chars.size) (h8:8<s.size) (hs:s.size<4294967281) (hcs:chars.size<4294967281) (hascii:∀ (j:Nat) b,chars.data.toList[j]?=some b->b.toNat<128) : ZE prog 251 #[.string s,.string chars] w fun e w'=>e=.returned (.int .i64 (Lib.indexAny s.data.toList chars.data.toList))/\w'=((w.alloc (.cells (Lib.setCells chars.data.toList) 235)).alloc (.cells (Lib.setCells chars.data.toList) 235)):=Any.strings_IndexAny_long lays153 hv116 kR s chars w h2 h8 hs hcs hascii
def Tryz.lays105_ren:Go.Shelf.Ren:=⟨fun|105=>95|212=>153|99=>154|165=>155|166=>68|170=>156|169=>69|263=>230|264=>231|206=>232|240=>124|241=>233|276=>196|277=>290|n=>n,fun|9=>9|3=>3|4=>4|20=>20|0=>0|46=>201|109=>206|5=>5|72=>127|76=>130|51=>261|146=>262|53=>155|148=>264|70=>124|37=>125|75=>129|127=>188|164=>246|80=>132|n=>n,fun|n=>n⟩
theorem lays105:Go.Proofs.Lays.n105 prog Tryz.lays105_ren:=lR
theorem Tryz.Builder_Extra_105:Builder.Extra prog Tryz.lays105_ren:=lR
open Go.RowKit Go.Lib CH in
theorem Tryz.strings_Repeat (s:ByteArray) (c:Nat) (w:ZB) (hc:c<=9223372036854775807) (hlen:s.size*c<=140737488355328) : ZE prog 95 #[.string s,↑c] w fun e w'=>e=.returned (.string ⟨(Lib.repeatL s.data.toList c).toArray⟩)/\Below w w w':=Any.strings_Repeat lays105 Tryz.Builder_Extra_105 s c w hc hlen
def Tryz.lays260_ren:Go.Shelf.Ren:=⟨fun|260=>305|n=>n,fun|9=>9|21=>21|3=>3|4=>4|5=>5|119=>329|0=>0|46=>201|139=>332|138=>331|n=>n,fun|3=>2|4=>3|n=>n⟩
theorem lays260:Go.Proofs.Lays.n260 prog Tryz.lays260_ren:=lR
def Tryz.lays274_ren:Go.Shelf.Ren:=⟨fun|274=>368|n=>n,fun|21=>21|162=>364|160=>365|3=>3|4=>4|46=>201|0=>0|208=>371|51=>261|206=>369|n=>n,fun|n=>n⟩
theorem lays274:Go.Proofs.Lays.n274 prog Tryz.lays274_ren:=lR
open Go.RowKit Go.Lib CH in
theorem Tryz.strings_ToLower_any (s:ByteArray) (w:ZB) (hs:s.size<35184372088832) (hV:CaseVar 8 caseA w) (hT:Lib.Utf8Tabs 2 3 w) : ZE prog 337 #[.string s] w fun e w'=>e=.returned (.string ⟨(Lib.toLowerD s.data.toList).toArray⟩)/\Below w w w':=Any.strings_ToLower_any lays159 Tryz.jG s w hs hV hT
def Tryz.lays107_ren:Go.Shelf.Ren:=⟨fun|107=>300|108=>324|n=>n,fun|28=>40|3=>3|4=>4|0=>0|n=>n,fun|n=>n⟩
theorem lays107:Go.Proofs.Lays.n107 prog Tryz.lays107_ren:=lR
open Go.Lib CH in
theorem Tryz.slices_Contains_int (b off n c:Nat) (zs:List Int) (x:Int) (w:ZB) (hz:n<=zs.length) (hbig:n<=9223372036854775807) (hc:∀ j,j<zs.length->w.cell? ⟨b,off+j,none⟩=some (.int .i64 (zs.getD j 0))) : ZE prog 300 #[.slice (some ⟨b,off,none⟩) n c,↑x] w fun e w'=>e=.returned (.bool ((zs.take n).contains x))/\w'=w:=Any.slices_Contains_int lays107 b off n c zs x w hz hbig hc
def Tryz.lays110_ren:Go.Shelf.Ren:=⟨fun|110=>241|109=>295|n=>n,fun|31=>22|9=>9|4=>4|3=>3|0=>0|n=>n,fun|n=>n⟩
theorem lays110:Go.Proofs.Lays.n110 prog Tryz.lays110_ren:=lR
open Go.Lib CH in
theorem Tryz.slices_Contains_string (b off n c:Nat) (zs:List ByteArray) (x:ByteArray) (w:ZB) (hz:n<=zs.length) (hbig:n<=9223372036854775807) (hc:∀ j,j<zs.length->w.cell? ⟨b,off+j,none⟩=some (.string (zs.getD j ByteArray.empty))) : ZE prog 241 #[.slice (some ⟨b,off,none⟩) n c,.string x] w fun e w'=>e=.returned (.bool (Lib.containsS (zs.take n) x))/\w'=w:=Any.slices_Contains_string lays110 b off n c zs x w hz hbig hc
def Tryz.qg:Go.Shelf.Ren:=⟨fun|17=>151|n=>n,fun|24=>22|9=>9|3=>3|4=>4|0=>0|n=>n,fun|n=>n⟩
theorem Tryz.laysNm217:Go.Proofs.Lays2.n17 prog Tryz.qg:=lR
open Go.RowKit Go.Lib Go.Sort CH in
theorem Tryz.slices_Reverse_string_empty (a:Option Addr) (cap:Nat) (w:ZB) : ZE prog 151 #[.slice a 0 cap] w fun e w'=>e=.returned (.tuple #[])/\w'=w:=Any.slices_Reverse_string_empty Tryz.laysNm217 a cap w
def Tryz.qh:Go.Shelf.Ren:=⟨fun|16=>30|n=>n,fun|24=>22|9=>9|4=>4|n=>n,fun|n=>n⟩
theorem Tryz.laysNm216:Go.Proofs.Lays2.n16 prog Tryz.qh:=lR
open Go.RowKit Go.Lib CH in
theorem Tryz.slices_Clone_string (b off n c:Nat) (zs:List ByteArray) (w:ZB) (hz:n<=zs.length) (hbig:n*16<=140737488355328) (hc:∀ j,j<zs.length->w.cell? ⟨b,off+j,none⟩=some (.string (zs.getD j ByteArray.empty))) : ZE prog 30 #[.slice (some ⟨b,off,none⟩) n c] w fun e w'=>∃ v',e=.returned v'/\w'.ownsRow w 9 1 v' n ((zs.take n).map Value.string)/\v'≠.slice none 0 0/\Below w w w':=Any.slices_Clone_string Tryz.laysNm216 b off n c zs w hz hbig hc
open Go.RowKit Go.Lib CH in
theorem Tryz.slices_Clone_string_nil (n c:Nat) (w:ZB) : ZE prog 30 #[.slice none n c] w fun e w'=>e=.returned (.slice none 0 0)/\w'=w:=Any.slices_Clone_string_nil Tryz.laysNm216 n c w
open Go.RowKit Go.Lib CH in
theorem Tryz.slices_Clone_string_zero (a:Addr) (c:Nat) (w:ZB) : ZE prog 30 #[.slice (some a) 0 c] w fun e w'=>∃ v',e=.returned v'/\w'.ownsRow w 9 1 v' 0 []/\v'≠.slice none 0 0/\Below w w w':=Any.slices_Clone_string_zero Tryz.laysNm216 a c w
open Go.RowKit Go.Lib Go.Sort CH in
theorem Tryz.slices_Reverse_string_cells (b off n c:Nat) (Sx:Nat->ByteArray) (w:ZB) (hbig:n<=9223372036854775807) (hc:∀ i,i<n->w.cell? ⟨b,off+i,none⟩=some (.string (Sx i))) (hf:∀ j,j<n->w.frozen? ⟨b,off+j,none⟩=false) : ZE prog 151 #[.slice (some ⟨b,off,none⟩) n c] w fun e w'=>e=.returned (.tuple #[])/\∃ q,w'=(w.drewN q).setCells b off ((Lib.strsOf Sx n).reverse.map encStr):=Any.slices_Reverse_string_cells Tryz.laysNm217 b off n c Sx w hbig hc hf
end
end Go.Proofs

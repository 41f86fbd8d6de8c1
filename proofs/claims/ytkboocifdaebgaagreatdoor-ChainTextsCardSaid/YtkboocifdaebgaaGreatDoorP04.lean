/- ChainTexts, part 5 of 31. -/
import Derived.Test.YtkboocifdaebgaaGreatDoorP02
import Derived.RangeFuncNested
import Derived.RangeFuncBound
import Derived.Shelf.RegionOpen
import Derived.OwnWalkIn
import Derived.LoopNIn
import Derived.LoopIn
import Derived.Deep.RegionHeld3
set_option linter.all false
set_option maxHeartbeats 40000000
set_option maxRecDepth 100000
open Go renaming undef -> ZA, World -> ZB, Value -> ZC, Calls -> ZE
open Go.RowKit renaming intOf -> ZG
open Decidable renaming decide -> ZH
open Go.Lib renaming itoa -> ZK
namespace Go.Proofs.Y
section
open Go.Lib Go.Proofs.Tryz Go.RowKit CH
theorem I0 (s:Q00):s.isEmpty=!(s != []):=by cases s <;> rfl
mutual
def Ax (B:Nat) (w:ZB):CH.Formula->ZC->Prop
 |.mk _ _ _ _ kids,v=>∃ a cap,v=.slice a kids.length cap/\kids.length<=cap/\cap<=9223372036854775807/\(kids≠[]->∃ b off,a=some ⟨b,off,none⟩/\b<B/\bP B w kids b off)
def bP (B:Nat) (w:ZB):List CH.Formula->Nat->Nat->Prop
 |[],_,_=>True
 |f::l,b,off=>(∃ vk,w.cell? ⟨b,off,none⟩=some ↑f.op/\w.cell? ⟨b,off+1,none⟩=some ↑f.name/\w.cell? ⟨b,off+2,none⟩=some ↑f.cmp/\w.cell? ⟨b,off+3,none⟩=some ↑f.n/\w.cell? ⟨b,off+4,none⟩=some vk/\Ax B w f vk)/\bP B w l b (off+5)
end
mutual
theorem Ax.below {B B':Nat} {w w':ZB} (hb:Below B' w w') (hB:B<=B'):∀ (f:CH.Formula) (v:ZC),Ax B w f v->Ax B w' f v
 |.mk _ _ _ _ kids,v,h=>by
  unfold Ax at h ⊢
  obtain⟨a,cap,h1,h2,h3,h4⟩:=h
  refine⟨a,cap,h1,h2,h3,fun hne=>?_⟩
  obtain⟨b,off,e,hlt,hr⟩:=h4 hne
  exact⟨b,off,e,hlt,bP.below hb hB kids b off hlt hr⟩
theorem bP.below {B B':Nat} {w w':ZB} (hb:Below B' w w') (hB:B<=B'):∀ (l:List CH.Formula) (b off:Nat),b<B->bP B w l b off->bP B w' l b off
 |[],_,_,_,_=>by unfold bP;trivial
 |f::l,b,off,hlt,h=>by
  unfold bP at h ⊢
  obtain⟨⟨vk,c0,c1,c2,c3,c4,hk⟩,hr⟩:=h
  have hc:=fun o=>hb.cell (p:=⟨b,o,none⟩) (Af hlt hB)
  exact⟨⟨vk,(hc _).trans c0,(hc _).trans c1,(hc _).trans c2,(hc _).trans c3,(hc _).trans c4,Ax.below hb hB f vk hk⟩,bP.below hb hB l b (off+5) hlt hr⟩
end
mutual
theorem Ax.mono {B B':Nat} {w:ZB} (hB:B<=B'):∀ (f:CH.Formula) (v:ZC),Ax B w f v->Ax B' w f v
 |.mk _ _ _ _ kids,v,h=>by
  unfold Ax at h ⊢
  obtain⟨a,cap,h1,h2,h3,h4⟩:=h
  refine⟨a,cap,h1,h2,h3,fun hne=>?_⟩
  obtain⟨b,off,e,hlt,hr⟩:=h4 hne
  exact⟨b,off,e,Af hlt hB,bP.mono hB kids b off hr⟩
theorem bP.mono {B B':Nat} {w:ZB} (hB:B<=B'):∀ (l:List CH.Formula) (b off:Nat),bP B w l b off->bP B' w l b off
 |[],_,_,_=>by unfold bP;trivial
 |f::l,b,off,h=>by
  unfold bP at h ⊢
  obtain⟨⟨vk,c0,c1,c2,c3,c4,hk⟩,hr⟩:=h
  exact⟨⟨vk,c0,c1,c2,c3,c4,Ax.mono hB f vk hk⟩,bP.mono hB l b (off+5) hr⟩
end
theorem Ax.form {B:Nat} {w:ZB} {f:CH.Formula} {v:ZC} (h:Ax B w f v):∃ a cap,v=.slice a f.kids.length cap/\f.kids.length<=cap/\cap<=9223372036854775807/\(f.kids≠[]->∃ b off,a=some ⟨b,off,none⟩/\b<B/\bP B w f.kids b off):=by
 cases f with
 |mk op name cmp n kids=>unfold Ax at h;exact h
theorem bP.get {B:Nat} {w:ZB}:∀ (l:List CH.Formula) (b off j:Nat) (f:CH.Formula),bP B w l b off->l[j]?=some f ->
  ∃ vk,w.cell? ⟨b,off+j*5,none⟩=some ↑f.op/\w.cell? ⟨b,off+j*5+1,none⟩=some ↑f.name/\w.cell? ⟨b,off+j*5+2,none⟩=some ↑f.cmp/\w.cell? ⟨b,off+j*5+3,none⟩=some ↑f.n/\w.cell? ⟨b,off+j*5+4,none⟩=some vk/\Ax B w f vk
 |[],_,_,_,_,_,h=>by simp at h
 |g::l,b,off,0,f,h,hj=>by
  unfold bP at h
  simp only [H9,G6] at hj
  subst hj
  simpa using h.1
 |g::l,b,off,j+1,f,h,hj=>by
  unfold bP at h
  simp only [Ir] at hj
  have:=bP.get l b (off+5) j f h.2 hj
  rw [show off+(j+1)*5=off+5+j*5 from by omega]
  exact this
def An (f:CH.Formula) (vk:ZC):Array ZC:=#[↑f.op,↑f.name,↑f.cmp,↑f.n,vk]
theorem Lgt (f:CH.Formula):1<=f.count:=by cases f with|mk _ _ _ _ kids=>unfold CH.Formula.count;omega
theorem Ni (l m:List CH.Formula):aA (l++m)=aA l+aA m:=by
 induction l with
 |nil=>simp [aA]
 |cons f l ih=>simp [aA,ih];omega
theorem Vi (l m:List CH.Formula):aX (l++m)=max (aX l) (aX m):=by
 induction l with
 |nil=>simp [aX]
 |cons f l ih=>simp [aX,ih]
theorem Sw {l:List CH.Formula} {f:CH.Formula} (h:f∈l):f.depth<=aX l:=by
 induction l with
 |nil=>cases h
 |cons g l ih =>
  simp only [aX];rcases Az.1 h with rfl|h;·omega
  ·have:=ih h;omega
theorem C65 {l:List CH.Formula} {f:CH.Formula} (h:f∈l):f.count<=aA l:=by
 induction l with
 |nil=>cases h
 |cons g l ih =>
  simp only [aA];rcases Az.1 h with rfl|h;·omega
  ·have:=ih h;omega
theorem At2 (f:CH.Formula):f.count=1+aA f.kids:=by cases f with|mk _ _ _ _ kids=>rfl
theorem Li (f:CH.Formula):f.depth=1+aX f.kids:=by cases f with|mk _ _ _ _ kids=>rfl
theorem Mpo (f:CH.Formula):f.ok=(jG f.op f.name f.cmp f.n f.kids.length&&!(f.op==3&&(ZH (f.n<0)||ZH (f.n > 1000000)||CH.isKey f.name))&&fH f.kids):=by cases f with|mk _ _ _ _ kids=>rfl
theorem Q2 (l:List CH.Formula):l.length<=aA l:=by
 induction l with
 |nil=>simp
 |cons f l ih=>have:=Lgt f;simp only [aA,Ap];omega
end
section
open CH
def bI:Option Q00->ZC
 |some t=>.tuple #[↑t,.int .i64 0]
 |none=>.tuple #[.string ⟨#[]⟩,.int .i64 1]
theorem A5 (a b:Q00):(⟨a.toArray⟩:ByteArray)++⟨b.toArray⟩=⟨(a++b).toArray⟩:=by apply ByteArray.ext;simp
end
section
open Go.Lib Go.Proofs.Tryz Go.RowKit Go.Shelf Go.Sort CH
structure Gc (w:ZB):Prop where
 gl:Gl w
 wK:Lib.CaseVar 10 Lib.caseA w
theorem Gc.below {w w':ZB} (h:Gc w) (hb:Below w w w'):Gc w':=⟨h.gl.below hb,Lib.CaseVar_below h.wK hb⟩
theorem Etf (c:UInt8):∀ l:Q00,ZH (0<=Lib.indexByte l c)=l.contains c:=by
 intro l;rw [Tw];cases hf:l.findIdx? (·==c) with
 |none =>
  have:=List.findIdx?_eq_none_iff.1 hf;have hn:l.contains c=false:=by
   rw [Bool.eq_false_iff];intro hc;have hm:c∈l:=by simpa using hc
   have:=this c hm;simp at this
  rw [hn];rfl
 |some n =>
  obtain⟨h1,h2,_⟩:=F9.1 hf;have:l.contains c=true:=by
   have e:l[n]=c:=by simpa using h2
   have:=Jc h1;rw [e] at this;exact FD86
  rw [this];simp
theorem Ut (s set:Q00) (i:Nat) (w:ZB) (hs:s.length<=1000000) (hi:i<=10) : ZE prog 294 #[↑s,↑i,↑set] w (fun e w'=>e=.returned (.bool (CH.isIn s i set))/\w'=w):=by
 by_cases hlt:i<s.length
 ·obtain⟨ch,hch⟩:∃ ch,s[i]?=some ch:=⟨_,Ae hlt⟩
  have hgk:=Qv s i hlt ch hch;have hv:CH.isIn s i set=set.contains ch:=by unfold CH.isIn;rw [hch]
  have C:=Tryz.strings_IndexByte ⟨set.toArray⟩ (ch.toNat:Int) w;have e1:(ByteArray.mk set.toArray).data.toList=set:=rfl;have e2:((ch.toNat:Int)).toNat.toUInt8=ch:=sM;rw [e1,e2] at C;have hge:=Etf ch set;rw [hv,<- hge];have C:=Aa C;clear hv hge hch e1 e2;generalize Lib.indexByte set ch=z at *;go_in;go_wp2_with fail;refine CmZ C.out fun w1 hw1=>?_;rw [hw1];clear C hw1 w1;go_wp2;go_ret;exact⟨rfl,rfl⟩
 ·have hv:CH.isIn s i set=false:=by unfold CH.isIn;rw [List.getElem?_eq_none oM]
  have d1:=naj ((i:Int)<(s.length:Int));rw [hv];clear hv;exact FD32
theorem I04:∀ n:Fin 128,(Lib.toLowerD [UInt8.ofNat (n.val+128)])[0]?=some 239:=nah
theorem Kpy:∀ n:Fin 128,CH.isIn (Lib.toLowerA [UInt8.ofNat n.val]) 0 CH.smalls=dK [UInt8.ofNat n.val]:=nah
theorem Kn8 (b:UInt8):CH.isIn (Lib.toLowerD [b]) 0 CH.smalls=dK [b]:=by
 by_cases hb:b.toNat<128;·rw [Lib.toLowerD_ascii _ (by intro x hx;simp at hx;subst hx;exact hb)];have h:=Kpy ⟨b.toNat,hb⟩;simpa using h
 ·have h:=I04 ⟨b.toNat - 128,by have:=Fz b;omega⟩;have e:UInt8.ofNat ((b.toNat - 128)+128)=b:=by rw [show b.toNat - 128+128=b.toNat from by omega];simp
  dsimp only at h;rw [e] at h;have h1:CH.isIn (Lib.toLowerD [b]) 0 CH.smalls=false:=by unfold CH.isIn;rw [h];rfl
  rw [h1];have h2:∀ n:Fin 128,dK [UInt8.ofNat (n.val+128)]=false:=nah;have h3:=h2 ⟨b.toNat - 128,by have:=Fz b;omega⟩;dsimp only at h3;rw [e] at h3;exact h3.symm
theorem I03 (s:Q00):CH.isIn (Lib.toLowerD (s.take 1)) 0 CH.smalls=dK s:=by
 cases s with
 |nil=>decide +kernel
 |cons b l =>show CH.isIn (Lib.toLowerD [b]) 0 CH.smalls=dK (b::l);rw [Kn8];rfl
theorem K1c (s:Q00):(Lib.toLowerD (s.take 1)).length<=100:=by
 cases s with
 |nil=>decide +kernel
 |cons b l =>show (Lib.toLowerD [b]).length<=100;have h:∀ n:Fin 256,(Lib.toLowerD [UInt8.ofNat n.val]).length<=100:=nah;have:=h ⟨b.toNat,Fz b⟩;exact FD86
theorem I06 (k:Int) (s:Q00) (w:ZB) (hG:Gc w) (hs:s.length<=1000000) : ZE prog 258 #[↑k,↑s] w (Ret w (.int .i64 (CH.slen k s:Nat))):=by
 obtain⟨r,hr⟩:=nac (CH.slen k s);rw [hr.out];have I:=Aa fun (set:Q00) (i:Nat) (hi:i<=10) (w:ZB)=>Ut s set i w hs hi;by_cases k1:k=1
 ·subst k1;cases hb:CH.isIn s 0 CH.smalls with
  |true =>have A:=I.out CH.smalls 0 dC w;exact FD18
  |false =>have A:=I.out CH.smalls 0 dC w;exact FD18
 by_cases k2:k=2
 ·subst k2;have hex:(ByteArray.mk s.toArray).extract 0 (min (1:Int) (s.length:Int)).toNat=⟨(s.take 1).toArray⟩:=by rw [show (min (1:Int) (s.length:Int)).toNat=min 1 s.length from by omega,Fu];simp
  have T:=Aa (Tryz.strings_ToLower_any ⟨(s.take 1).toArray⟩ w (by show (s.take 1).toArray.size<_;simp;omega) hG.wK hG.gl.utf8);have hll:=K1c s;have hlt:=I03 s;have J1:=fun w=>Ut (Lib.toLowerD (s.take 1)) CH.smalls 0 w oM dC;rw [hlt] at J1;have J1:=Aa J1;clear hlt hll;go_in;go_wp2_with fail;refine CmZ T.out fun w1 hb1=>?_;clear T;generalize Lib.toLowerD (s.take 1)=LD at *;cases hL:dK s with
  |false =>have A:=J1.out w1;rw [hL] at A;replace A:=Aa A;clear J1;go_wp2_with fail;refine CmZ A.out fun w2 hw2=>?_;rw [hw2];clear A I hw2 w2;go_wp2;go_ret;exact⟨by rw [<- hr.out];simp only [CH.slen,hL];rfl,hb1⟩
  |true =>
   have A:=J1.out w1;rw [hL] at A;replace A:=Aa A;clear J1;go_wp2_with fail;refine CmZ A.out fun w2 hw2=>?_;rw [hw2];clear A hw2 w2;cases hq:CH.isIn s 1 [39,96,94] with
   |true =>exact FD39
   |false =>exact FD39
 by_cases k3:k=3
 ·subst k3;cases hb:CH.isIn s 0 ([98,100,102,103,104,106,107,108,109,110,112,113,114,115,116,119,120,121,122,39]:Q00) with
  |true =>exact FD87
  |false =>exact FD87
 by_cases k4:k=4
 ·subst k4;cases h1:CH.isIn s 0 ([107,115,116,110,104,109,121,114,119,103,122,100,98,112]:Q00) with
  |true =>
   have A:=I.out ([107,115,116,110,104,109,121,114,119,103,122,100,98,112]:Q00) 0 dC w;rw [h1] at A;replace A:=Aa A;go_in;go_wp2_with fail;refine CmZ A.out fun w9 hw9=>?_;rw [hw9];clear A hw9 w9;cases h2:CH.isIn s 1 ([97,105,117,101,111]:Q00) with
   |true =>have A:=I.out ([97,105,117,101,111]:Q00) 1 dC w;rw [h2] at A;replace A:=Aa A;go_wp2_with fail;refine CmZ A.out fun w9 hw9=>?_;rw [hw9];clear A hw9 w9;clear I;go_wp2;go_ret;exact⟨by rw [<- hr.out];simp only [CH.slen,h1,h2];rfl,Ac _ _⟩
   |false =>
    have A:=I.out ([97,105,117,101,111]:Q00) 1 dC w;rw [h2] at A;replace A:=Aa A;go_wp2_with fail;refine CmZ A.out fun w9 hw9=>?_;rw [hw9];clear A hw9 w9;cases h3:CH.isIn s 0 ([97,105,117,101,111]:Q00) with
    |true =>have A:=I.out ([97,105,117,101,111]:Q00) 0 dC w;rw [h3] at A;replace A:=Aa A;go_wp2_with fail;refine CmZ A.out fun w9 hw9=>?_;rw [hw9];clear A hw9 w9;clear I;go_wp2;go_ret;exact⟨by rw [<- hr.out];simp only [CH.slen,h1,h2,h3];rfl,Ac _ _⟩
    |false =>
     have A:=I.out ([97,105,117,101,111]:Q00) 0 dC w;rw [h3] at A;replace A:=Aa A;go_wp2_with fail;refine CmZ A.out fun w9 hw9=>?_;rw [hw9];clear A hw9 w9;cases h4:CH.isIn s 0 [110] with
     |true =>exact FD38
     |false =>exact FD38
  |false =>
   have A:=I.out ([107,115,116,110,104,109,121,114,119,103,122,100,98,112]:Q00) 0 dC w;rw [h1] at A;replace A:=Aa A;go_in;go_wp2_with fail;refine CmZ A.out fun w9 hw9=>?_;rw [hw9];clear A hw9 w9;cases h3:CH.isIn s 0 ([97,105,117,101,111]:Q00) with
   |true =>have A:=I.out ([97,105,117,101,111]:Q00) 0 dC w;rw [h3] at A;replace A:=Aa A;go_wp2_with fail;refine CmZ A.out fun w9 hw9=>?_;rw [hw9];clear A hw9 w9;clear I;go_wp2;go_ret;exact⟨by rw [<- hr.out];simp only [CH.slen,h1,h3];rfl,Ac _ _⟩
   |false =>
    have A:=I.out ([97,105,117,101,111]:Q00) 0 dC w;rw [h3] at A;replace A:=Aa A;go_wp2_with fail;refine CmZ A.out fun w9 hw9=>?_;rw [hw9];clear A hw9 w9;cases h4:CH.isIn s 0 [110] with
    |true =>exact FD40
    |false =>exact FD40
 have d1:(k==1)=false:=by simpa using k1
 have d2:(k==2)=false:=by simpa using k2
 have d3:(k==3)=false:=by simpa using k3
 have d4:(k==4)=false:=by simpa using k4
 clear I;go_in;go_wp2;go_ret;exact⟨by rw [<- hr.out];simp only [CH.slen,k1,k2,k3,k4];rfl,Ac _ _⟩
end
section
open Go.Lib Go.Proofs.Tryz Go.RowKit Go.Sort CH
theorem Ite (v:ZC) (ls:List Q00) (w:ZB) (hG:Gl w) (hv:Strs w w v ls) (hlen:(CH.pack ZK ls).length<=140737488355328) : ZE prog 149 #[v] w (Ret w (.string ⟨(CH.dl ls).toArray⟩)):=by have HC:=Aa (Wl v ls w hG hv hlen);clear hv hlen;go_in;go_wp2_with fail;refine CmZ HC.out fun w1 hb=>?_;go_wp2;go_ret;exact⟨rfl,hb⟩
theorem V7 (kq:Q00) (i k:Nat) (w:ZB) (hG:Gl w) (hs:kq.length<=1000000) (hi:i<=1000000) (hk:k<=1000000) : ZE prog 88 #[↑kq,↑i,↑k] w (Ret w (.string ⟨(CH.start kq i k).toArray⟩)):=by
 have hl1:=Lib.itoa_length_le (i:Int) oM oM;have hl2:=Lib.itoa_length_le (k:Int) oM oM;go_in;go_wp2_with fail;refine CmZ (Hd _ _ oM oM hG) fun w1 hb1=>?_;have hG1:=hG.below hb1;go_wp2_with fail;refine CmZ (Hd _ _ oM oM hG1) fun w2 hb2=>?_;have hG2:=hG1.below hb2;have hb2':=hb1.trans (hb2.mono hb1.size);go_wp2_with fail;refine (Ite _ [kq,ZK i,ZK k] _ (hG2.below (Cr w2 _)) (by rw [Df];exact Wc w2 [kq,ZK i,ZK k] 9 sM) ?_).mono ?_;·have:=Qi [kq,ZK i,ZK k] 1000000 (by intro l hl;simp at hl;rcases hl with rfl|rfl|rfl <;> omega) dC;simp at this ⊢;omega
 rintro e w3 ⟨rfl,hb3⟩;go_wp2;go_ret;exact⟨rfl,hb2'.trans (((Cr w2 _).trans (hb3.mono sM)).mono hb2'.size)⟩
theorem Pgs (kq:Q00) (i:Nat) (w:ZB) (hG:Gl w) (hs:kq.length<=1000000) (hi:i<=1000000) : ZE prog 85 #[↑kq,↑i] w (Ret w (.string ⟨(kW kq i).toArray⟩)):=by
 go_in;go_wp2_with fail;go_loopw [5,7] (fun ov kv wr=>∃ (k:Nat) (out:List Q00),k<=18/\kv=↑k/\Av w wr ov out/\out.length=k/\Hid (out=(List.range k).map fun j=>CH.chain 15 (CH.start kq i j))/\Below w w wr) (fun _ kv _=>18 - (ZG kv).toNat);case atStart=>exact⟨0,[],oM,rfl,Av.nil _ _,rfl,rfl,Ac _ _⟩
 case round =>
  obtain⟨k,out,hk,rfl,hO,hol,hH,hb⟩:=hrel;have hG':=hG.below hb;have hsz:=hb.size;have HOL:=Aa hol;have OQ:out.length<=18:=oM;clear hol;by_cases hlt:k<18
  ·go_wp2_with fail;refine CmZ (V7 kq i k wr hG' hs hi oM) fun w1 hb1=>?_;have hG1:=hG'.below hb1;go_wp2_with fail;refine CmZ (Pp (CH.start kq i k) 15 w1 hG1 dC (by rw [iM];decide)) fun w2 hb2=>?_;have hO2:=((hO.below hb1).below hb2).alloc (.cells #[.string ⟨(CH.chain 15 (CH.start kq i k)).toArray⟩] 9);have hs1:=hb1.size;have hs2:=hb2.size;have hb2':Below w w w2:=(hb.trans (hb1.mono hsz)).trans (hb2.mono oM);have HN:Hid (out++[CH.chain 15 (CH.start kq i k)]=(List.range (k+1)).map fun j=>CH.chain 15 (CH.start kq i j)):=by rw [List.range_succ,Gi,<- hH.out];exact rfl
   clear hH hO hb hb1 hb2 hG' hG1;generalize CH.chain 15 (CH.start kq i k)=c at *;go_wp2_with (at_builtin;refine Cs rfl _ _ rfl w _ out rfl hO2 w2 1 c rfl ?c1 ?c2 ?c3 ?_)
   case c1=>rw [Ci _ _ _ _ rfl];rfl
   case c2=>omega
   case c3=>simp;omega
   intro v' w3 hO3 hg3 _;have hbf:Below w w w3:=(hb2'.alloc oM _).grown hg3 naf (fun j hj=>(Ih hO2 j hj).1);clear hO2 hg3 hb2';go_wp2;go_roundw;case rel=>exact⟨k+1,out++[c],oM,by go_num,hO3,by have:=HOL.out;simp;omega,HN,hbf⟩
   case measure=>simp [ZG];omega
  ·have e:k=18:=oM;have HF:Hid (out=(List.range 18).map fun j=>CH.chain 15 (CH.start kq i j)):=by rw [<- e];exact hH
   have hin:∀ l∈out,l.length<=16:=fun l hl=>by rw [HF.out] at hl;obtain⟨j,_,rfl⟩:=Ew.1 hl;rw [tN _ _ (iM _ _ _)];exact Au _
   have HIN:=Aa hin;clear e hH hin;go_wp2_with fail;refine CmZ (Ite _ out wr hG' hO.strs (by have:=Qi out 16 HIN.out dC;have:out.length*(16+22)<=18*38:=Ec _ OQ;omega)) fun w1 hb1=>?_;go_wp2;go_ret;exact⟨by rw [HF.out];rfl,hb.trans (hb1.mono hsz)⟩
theorem Mu (h:Nat) (hh:h<=8):1<=2 ^ h/\2 ^ h<=256:=by rcases h with _|_|_|_|_|_|_|_|_|h;all_goals first|decide|omega
theorem No (h:Nat) (hh:h<=8):wrap64 (2 ^ h)=((2 ^ h:Nat):Int):=by rcases h with _|_|_|_|_|_|_|_|_|h;all_goals first|decide +kernel|omega
theorem Ggy (kq:Q00) (h:Nat) (w:ZB) (hG:Gl w) (hs:kq.length<=1000000) (hh:h<=8) : ZE prog 35 #[↑kq,↑h] w (Nov w (CH.keys kq h)):=by
 have hh0:(0:Int)<=(h:Int):=oM;have hh1:(h:Int)<64:=oM;have hh2:(h:Int)<=8:=oM;go_in;obtain⟨i0,hi,hz0,hz1,hz2⟩:=Jb Ur;go_wp2_with (at_make;refine wpList_make_full _ rfl _ _ 23 rfl w 9 i0 _ 1 underlying23 hi hz0 hz1 .i64 .i64 _ _ (2 ^ h) rfl rfl ?hL ?hC ?b2 ?b3 nR ?_)
 case hL=>exact No h hh
 case hC=>exact No h hh
 case b2=>rw [hz2];have:=Mu h hh;omega
 case b3=>have:=Mu h hh;unfold maxLen;omega
 intro w1 hown hg1;have hn1:=Mu h hh;have hbase:Below w w w1:=(Ac _ w).grown hg1 nR (fun k e=>by cases e);have hO1:Av w w1 (.slice (some ⟨w,0,none⟩) (2 ^ h) (2 ^ h)) (List.replicate (2 ^ h) []):=by
  unfold Av;have e:(madeCells #[Value.string ⟨#[]⟩] (2 ^ h)).toList=(List.replicate (2 ^ h) []).map ay:=by rw [toList_madeCells_one];simp
  have h2:(List.replicate (2 ^ h) ([]:Q00)).length=2 ^ h:=sM;rw [h2,<- e];exact hown
 have HK:Hid (CH.keys kq h=(List.range (2 ^ h)).map (kW kq)):=rfl;clear hown hg1 hi hz0 hz1 hz2;generalize hn:2 ^ h=n at *;clear hn hh0 hh1 hh2;go_wp2_with fail;go_loopw [12] (fun kv wr=>∃ (k:Nat) (ls:List Q00),k<=n/\kv=↑k/\Av w wr (.slice (some ⟨w,0,none⟩) n n) ls/\Hid (ls=(List.range k).map (kW kq)++List.replicate (n - k) [])/\Below w w wr) (fun kv _=>n - (ZG kv).toNat);case atStart=>exact⟨0,_,Ak _,rfl,hO1,by exact rfl,hbase⟩
 case round =>
  obtain⟨k,ls,hk,rfl,hO,hH,hb⟩:=hrel;have hG':=hG.below hb;have hsz:=hb.size;by_cases hlt:k<n
  ·go_wp2_with fail;refine CmZ (Pgs kq k wr hG' hs oM) fun w2 hb2=>?_;have hO2:=hO.below hb2;have hb2':Below w w w2:=hb.trans (hb2.mono hsz);have hll:ls.length=n:=by rw [hH.out];simp;omega
   have AX:Av w w2 (.slice (some ⟨w,0,none⟩) ls.length n) ls:=by rw [hll];exact hO2
   have hcell:w2.cell? ⟨w,k,none⟩=some (ay (ls.getD k [])):=by rw [Jf AX k oM];have hkl:k<ls.length:=oM;simp [hkl]
   have hfro:w2.frozen? ⟨w,k,none⟩=false:=World.ownsRow.frozenAt AX k;have HLL:=Aa hll;have HO2:=Aa AX;clear hO hb hb2 hG' hll hO2 AX;go_wp2;have hst:=World.ownsRow.stored HO2.out k (ay (kW kq k));have hset:ls.set k (kW kq k)=(List.range (k+1)).map (kW kq)++List.replicate (n - (k+1)) []:=by rw [hH.out,show n - k=(n - (k+1))+1 from by omega,J9,List.range_succ,Gi];rw [List.set_append_right _ _ sM];simp
   refine⟨⟨k+1,ls.set k (kW kq k),oM,by go_num,?_,hset,hb2'.setCell nR _⟩,by simp [ZG];omega⟩;unfold Av;rw [Vr,List.map_set];have h1:=HLL.out;rw [h1] at hst ⊢;exact hst.1
  ·have e:k=n:=oM;have HF:Hid (ls=CH.keys kq h):=Aa (by rw [HK.out,hH.out,e];simp);clear e hH;go_wp2;go_ret;exact⟨_,rfl,by rw [<- HF.out];exact hO,hb⟩
theorem Ino (kq:Q00) (h:Nat) (w:ZB) (hG:Gl w) (hs:kq.length<=1000000) (hh:h<=8) : ZE prog 9 #[↑kq,↑h] w (Ret w (.tuple #[.string ⟨(CH.pub kq h).toArray⟩,.int .i64 0])):=by have d1:ZH ((h:Int)<0)=false:=sM;have d2:=naj ((8:Int)<(h:Int));have hl:=Mu h hh;go_in;go_wp2_with fail;refine (Ggy kq h w hG hs hh).mono ?_;rintro e w1 ⟨v1,rfl,hO1,hb1⟩;go_wp2_with fail;refine CmZ (Zv _ v1 (CH.keys kq h) w1 (Cm _) (hG.below hb1) hO1.strs (by rw [CH.length_keys];omega) (fun l hl=>by unfold CH.keys at hl;obtain⟨j,_,rfl⟩:=Ew.1 hl;rw [og];decide)) fun w2 hb2=>?_;go_wp2;go_ret2;exact⟨rfl,hb1.trans (hb2.mono hb1.size)⟩
end
section
open Go.Lib Go.Proofs.Tryz Go.RowKit Go.Shelf CH
variable {w:ZB} {P:Program} {a:Act} {K:Act->ZB->Prop} {Q:Exit->Act->ZB->Prop} {ops:Array Oper} {ls:List Q00}
attribute [local go_sem] I5
abbrev DP:=Fin 18 × Fin 16
abbrev CP (x:DP):Array ZC:=#[.int .i64 (x.1.val:Nat),.int .i64 (x.2.val:Nat)]
theorem B7b (n:Nat) (h:n<16):Lib.indexByte Sd (CH.hexDigit n)=(n:Int):=by have:∀ k:Fin 16,Lib.indexByte Sd (CH.hexDigit k.val)=(k.val:Int):=nah;exact this ⟨n,h⟩
theorem I16 (k n:Nat):∀ c∈iy k n,∃ d,d<16/\c=CH.hexDigit d:=by
 induction k generalizing n with
 |zero=>simp [iy]
 |succ k ih =>
  intro c hc;rcases Bz.1 hc with h|h;·exact ih _ c h
  ·simp at h;exact⟨n % 16,Ls _ dC,h⟩
theorem Mx {w':ZB} (h:Below w w w'):w.grownBy w' none:=⟨h.os,h.tape,h.output,h.size,fun k hk _=>h.block k hk⟩
theorem Vg (m:Q00) (hm:m.length<=140737488355328) (n Bm:Nat) (hn:1<=n) (w:ZB) (hG:Gl w) (hB:Bm<w.heap.size) (hc:w.cell? ⟨Bm,0,none⟩=some ↑m) : SeqStopsK Fence.wide n prog 150 #[.pointer (some ⟨Bm,0,none⟩)] CP KeepsWalks (fun xs=>xs=fE m) (fun _=>True) 18 w:=fun l J Jx W hW hJ hJx hY h0=>by
 have hcW:W.cell? ⟨Bm,0,none⟩=some ↑m:=(hW.cell (p:=⟨Bm,0,none⟩) hB).trans hc;have hGW:=hG.below hW;refine Ns func150 rfl trivial ?_ rfl;simp only [ntmps150,Gu,Ap,Bf,Nat.reduceAdd,Nat.reduceSub,Gt,Gs,Hl,Gy,Eu,D6];gi_wp2_with fail;refine⟨trivial,?_⟩;refine (Iz.2 (Yu m W hGW hm)).mono ?_;rintro e W1 ⟨rfl,hb1⟩;have hJ1:J [] W1:=hJ [] W W1 none h0 (Mx hb1) (fun r e=>by cases e);have hsl:(CH.sum m).length=16:=eH m;have hdig:∀ k,k<16->∃ d,d<=15/\(CH.sum m)[k]?=some (CH.hexDigit d)/\(kF m)[k]?=some d:=fun k hk=>by have hk':k<(CH.sum m).length:=oM;obtain⟨d,hd,e⟩:=I16 16 (CX m) (CH.sum m)[k] (Jc hk');refine⟨d,oM,by rw [Ae hk',e],?_⟩;unfold kF;rw [Es,Ae hk',e];simp [oI d hd]
 have BR:∀ k d,k<16->(kF m)[k]?=some d->∃ x:DP,(fE m)[k]?=some x/\x.1.val=k/\x.2.val=d:=fun k d hk hd=>by obtain⟨hd',e⟩:=kD m k d oM (by rw [kE,Gn (by rw [dZ];exact hk)];exact hd);exact⟨_,e,rfl,rfl⟩
 have HD:=Aa hdig;have HP:=Aa BR;have HY:=Aa hY;clear hdig BR hY hcW hc h0 hb1;generalize hS:CH.sum m=S at *;gi_wp2_with fail;gi_loopw [3,11] (fun rv iv wr=>∃ k r:Nat,k<=16/\r<=240/\iv=↑k/\rv=↑r/\Hid (r=CH.lack m k)/\J ((fE m).take k) wr) (fun _ iv _=>16 - (ZG iv).toNat);case atStart=>exact⟨0,0,oM,oM,rfl,rfl,rfl,hJ1⟩
 case round =>
  obtain⟨k,r,hk,hr,rfl,rfl,hH,hJk⟩:=hrel;by_cases hlt:k<16
  ·obtain⟨d,hd,hSd,hdd⟩:=HD.out k hlt;have hkS:k<(ByteArray.mk S.toArray).size:=by show k<S.toArray.size;simp;omega
   have e1:Lib.indexByte (ByteArray.mk #[48,49,50,51,52,53,54,55,56,57,97,98,99,100,101,102]).data.toList (((((ByteArray.mk S.toArray)[k]'hkS).toNat:Int)).toNat.toUInt8)=(d:Int):=by
    have e2:(ByteArray.mk S.toArray)[k]'hkS=CH.hexDigit d:=by
     have h2:k<S.length:=oM;have:S[k]=CH.hexDigit d:=by rw [Ae h2] at hSd;exact Gh hSd
     rw [<- this];rfl
    rw [e2,show ((CH.hexDigit d).toNat:Int).toNat=(CH.hexDigit d).toNat from by omega];rw [show (CH.hexDigit d).toNat.toUInt8=CH.hexDigit d from by simp];exact B7b d oM
   obtain⟨x,hx,hx1,hx2⟩:=HP.out k d hlt hdd;have hpre:(fE m).take (k+1)=(fE m).take k++[x]:=aN _ _ _ hx;obtain⟨fn,tmps,assign,body,hy,hR⟩:=HY.out ((fE m).take k) x wr hJk (by rw [C9,dO];omega);have hl':CH.lack m (k+1)=r+(15 - d):=by rw [yh m k d hdd,<- hH.out]
   have hl2:=xw m (k+1);rw [hl'] at hl2;dsimp only [CP] at hy;rw [hx1,hx2] at hy;have HX:=Aa (And.intro hpre hl');clear hSd hdd hx hx1 hx2 hpre hl' hH;gi_wp2_with fail;refine⟨trivial,?_⟩;refine (Iz.2 (Tryz.strings_IndexByte _ _ wr)).mono ?_;rw [e1];clear e1;rintro e w' ⟨rfl,rfl⟩;gi_wp2_with fail;refine hR.mono ?_;rintro e W3 (⟨rfl,hJ3,_⟩|⟨rfl,hJx3⟩)
   ·obtain⟨hpre,hl'⟩:=HX.out;rw [<- hpre] at hJ3;have HL:=Aa hl';clear hpre hl' HX hJk hR hy;gi_wp2;go_roundw;case rel=>exact⟨k+1,r+(15 - d),oM,oM,by go_num,by go_num,HL.out.symm,hJ3⟩
    case measure=>simp [ZG];omega
   ·clear hJk hR hy HX;gi_wp2;refine Ar (Ld rfl _ _ _) rfl ?_;exact⟨⟨_,rfl⟩,.inr ⟨_,trivial,hJx3⟩⟩
  ·obtain rfl:k=16:=oM;have hr':=hH.out;have d16:(CH.digits m)[16]?=some (r / 16):=by rw [kE,Eb (by rw [dZ];exact Au _),dZ,<- hr'];rfl
   have d17:(CH.digits m)[17]?=some (r % 16):=by rw [kE,Eb (by rw [dZ];decide),dZ,<- hr'];rfl
   obtain⟨h16,p16⟩:=kD m 16 _ dC d16;obtain⟨h17,p17⟩:=kD m 17 _ dC d17;have t17:=aN _ _ _ p16;have t18:=aN _ _ _ p17;have GL:(fE m).take (17+1)=fE m:=Dz (by rw [dO];decide);rw [GL] at t18;have HT:=Aa (And.intro t17 t18);obtain⟨fn,tmps,assign,body,hy,hR⟩:=HY.out ((fE m).take 16) (⟨16,dC⟩,⟨r / 16,h16⟩) wr hJk (by rw [C9,dO];omega);replace hy:(Instr.yield l #[Value.int .i64 16,Value.int .i64 ((r:Int) / 16)]).run prog wr=.ok (.round l fn tmps assign body) wr:=by rw [show ((r:Int) / 16)=((r / 16:Nat):Int) from by omega];exact hy
   clear hr' d16 d17 p16 p17 t17 t18 GL hH HD HP;gi_wp2_with fail;refine hR.mono ?_;rintro e W3 (⟨rfl,hJ3,_⟩|⟨rfl,hJx3⟩)
   ·obtain⟨t17,t18⟩:=HT.out;rw [<- t17] at hJ3;clear hR hy hJk;obtain⟨fn,tmps,assign,body,hy,hR⟩:=HY.out ((fE m).take 17) (⟨17,dC⟩,⟨r % 16,h17⟩) W3 hJ3 (by rw [C9,dO];omega);replace hy:(Instr.yield l #[Value.int .i64 17,Value.int .i64 ((r:Int) % 16)]).run prog W3=.ok (.round l fn tmps assign body) W3:=by rw [show ((r:Int) % 16)=((r % 16:Nat):Int) from by omega];exact hy
    have H18:=Aa t18;clear t17 t18 HT;gi_wp2_with fail;refine hR.mono ?_;rintro e W4 (⟨rfl,hJ4,_⟩|⟨rfl,EZ⟩);·rw [<- H18.out] at hJ4;clear hR hy hJ3;gi_wp2;go_end0;exact⟨⟨_,rfl⟩,.inl ⟨_,rfl,hJ4⟩⟩
    ·clear hR hy hJ3;gi_wp2;go_end0;exact⟨⟨_,rfl⟩,.inr ⟨_,trivial,EZ⟩⟩
   ·clear hR hy hJk HT;gi_wp2;go_end0;exact⟨⟨_,rfl⟩,.inr ⟨_,trivial,hJx3⟩⟩
theorem Ifv {row:String} {args:Array ZC} {R:ZC->ZB->Prop} (l n:Nat) (h:Rows P row args w R):RowsIn (Fence.wide.inRound l) n P row args w R:=by intro c cs hroom;obtain⟨v,w',r,s⟩:=h c cs;exact⟨v,w',r,stepsIn_wide.2 s⟩
theorem Mnz {o:Oper} (l n:Nat) (hnd:∀ c,o.op≠.defer c) (h:o.wp P a w K Q):o.wpIn (Fence.wide.inRound l) n P a w K Q:=by
 refine⟨fun _ _=>trivial,?_⟩;rw [show (Fence.wide.inRound l).round=some l from rfl,I5 l a.eval o hnd];unfold Oper.wp at h;generalize (execOp a.eval o).run P w=r at h ⊢;cases r with
 |ok nx w' =>
  cases nx with
  |value v=>exact h
  |skip=>exact h
  |defer d=>exact h
  |enter f args=>exact⟨(fun hd=>by cases hd),CallsIn.inRound l (Iz.2 h)⟩
  |row r args=>exact⟨(fun hd=>by cases hd),Ifv l _ h⟩
  |_=>exact h.elim
 |halt hh w' =>
  cases hh with
  |panic v=>exact h
  |_=>exact h.elim
theorem Day {P:Program} {md:Region.Mode} (l n:Nat) (hnd:∀ (j:Nat) (o:Oper),ops[j]?=some o->∀ c,o.op≠.defer c) (hout:¬ LetsOut Q) :
  ∀ (fuel:Nat) (kx:Array Bool) (a:Act) (w:ZB),wpAny P md ops Q fuel kx a w->wpAnyIn (Fence.wide.inRound l) n P md ops Q fuel kx a w
 |0,_,_,_,h=>h
 |fuel+1,kx,a,w,h=>by
  refine⟨h.1,fun i hi=>?_⟩
  have h2:=wpOp_mono (fun a' w' h'=>Day l n hnd hout fuel _ a' w' h') (h.2 i hi)
  unfold wpOp at h2
  unfold wpOpIn
  cases ho:ops[i]? with
  |none=>rw [ho] at h2;exact h2
  |some o =>
   rw [ho] at h2
   simp only at h2 ⊢
   split
   ·rename_i hw
    rw [Ah hw] at h2
    rcases h2 with h2|⟨_,h2⟩
    ·exact Mnz l n (hnd i o ho) h2
    ·exact (hout h2).elim
   ·rename_i hw
    rw [Ai hw] at h2
    exact⟨fun _ _=>trivial,h2⟩
def Yy (ops:Array Oper):Bool:=ops.all fun o=>match o.op with|.defer _=>false|_=>true
theorem Enc (h:Yy ops=true) (j:Nat) (o:Oper) (ho:ops[j]?=some o) (c:Call):o.op≠.defer c:=by intro e;unfold Yy at h;rw [Ku] at h;have:=h o (Lp ho);rw [e] at this;cases this
theorem Dom {id:Nat} (S:ZB->Prop) (l n:Nat) (hm:P.follows .mixedOrders=true) (hnd:Yy ops=true) (hout:¬ LetsOut Q) (h:wpAnyH P .any ops Q S ops.size (Array.replicate ops.size false) a w.drew):(Code.region id ops true).wpIn (Fence.wide.inRound l) n P Q a w := wpIn_region_any hm (Day l n (Enc hnd) hout _ _ _ _ (wpAny_of_held _ _ _ _ h))
theorem Hc {id:Nat} (S:ZB->Prop) (l n:Nat) (hm:P.follows .mixedOrders=true) (hnd:Yy ops=true) (hout:¬ LetsOut Q) (hS:S w.drew) (h:S w.drew->wpAnyH P .any ops Q S ops.size (Array.replicate ops.size false) a w.drew):(Code.region id ops true).wpIn (Fence.wide.inRound l) n P Q a w := Dom S l n hm hnd hout (h hS)
attribute [local go_sem] I5
theorem Pbo (kq:Q00) (i:Nat) (m:Q00):CH.sig kq i m=(fE m).map fun x=>CH.chain x.2.val (CH.start kq i x.1.val):=by
 apply Jy;intro k;unfold CH.sig;by_cases hk:k<18;·have hl:=CH.length_digits m;have hg:(CH.digits m)[k]?=some ((CH.digits m)[k]'oM):=Ae _;obtain⟨hd,h2⟩:=kD m k _ hk hg;rw [Es,Es,h2,List.getElem?_zipIdx,hg];simp
 ·rw [Gw (by simp [CH.length_digits];omega),Gw (by simp [dO];omega)]
theorem Ast (m:Q00) (w:ZB):ZE prog 86 #[↑m] w fun e w'=>e=.returned (.func (.func 150) #[] #[.pointer (some ⟨w,0,none⟩)])/\w.alloc (.cells #[↑m] 9)=w':=by exact FD32
def Pop (w:ZB) (i:Nat) (sig path:List Q00) (e:Ending) (w':ZB):Prop := ∃ v1 v2,e=.returned (.tuple #[.agg #[↑i,v1,v2],.int .i64 0])/\Strs w' w' v1 sig/\Strs w' w' v2 path/\Below w w w'
structure vI (w:ZB) (b:Nat) (kq:Q00) (i:Nat) (pre:List DP) (W:ZB):Prop where
 le:b+5<=W.heap.size
 UQ:W.heap[b]?=some (.cells #[↑kq] 9 (0,0))
 bidx:W.heap[b+1]?=some (.cells #[↑i] 3 (0,0))
 res:W.heap[b+2]?=some (.cells #[.int .i64 0,.slice none 0 0,.slice none 0 0] 25 (0,0))
 out:∃ v,W.heap[b+3]?=some (.cells #[↑i,v,.slice none 0 0] 25 (0,0))/\Av (b+5) W v (pre.map fun x=>CH.chain x.2.val (CH.start kq i x.1.val))
 below:Below b w W
theorem Km {w':ZB} {base:Nat} {e:TypeId} {size:Nat} {v:ZC} {n:Nat} {xs:List ZC} {row:Option Nat} (h:w.ownsRow base e size v n xs) (hg:w.grownBy w' row) (hr:∀ r,row=some r->∃ o:Obj,w.heap[r]?=some o/\o.isCells=false):w'.ownsRow base e size v n xs:=by
 have h':=h;obtain⟨hl,⟨rfl,h0⟩|⟨g,cap,cur,rfl,hb,hgb,rest⟩⟩:=h;·exact h'.kept hg (.inl rfl)
 ·refine h'.kept hg (.inr ?_);intro e;obtain⟨o,ho,hc⟩:=hr g e.symm;rw [hgb] at ho;cases ho;cases hc
theorem vI.own (w:ZB) (b:Nat) (kq:Q00) (i:Nat) (B:Nat) (hB:b+5<=B):OwnFrom B (vI w b kq i):=by intro pre W W' row h hg hr;obtain⟨h1,h2,h3,h4,⟨v,h5,h6⟩,h7⟩:=h;have key:∀ k,k<b+5->W'.heap[k]?=W.heap[k]?:=fun k hk=>hg.block k oM (fun e=>by have:=(hr k e.symm).1;omega);have hsz:=hg.size;exact⟨oM,(key b oM).trans h2,(key _ oM).trans h3,(key _ oM).trans h4,⟨v,(key _ oM).trans h5,Km h6 hg (fun r e=>(hr r e).2)⟩, ⟨hg.os.trans h7.os,hg.tape.trans h7.tape,hg.output.trans h7.output,Aj h7.size hsz,fun k hk=>(key k oM).trans (h7.block k hk)⟩⟩
theorem Ks (w:ZB) (p:Addr) (u:ZC):w.grownBy (w.setCell p u) (some p.block) := ⟨rfl,rfl,rfl,by simp [World.setCell],fun k _ hk=>by simp only [World.setCell];rw [Fp,Ai (fun e=>hk (by rw [e]))]⟩
theorem Kh {w':ZB} (h:Below w w w'):KeepsOthers w w':=⟨h.size,fun k o hk _=>by rw [h.block k (aZ hk)];exact hk⟩
theorem Av.ownBlock {base:Nat} {v:ZC} (h:Av base w v ls):∀ j,v.ownBlock=some j->base<=j/\∃ cs t fr,w.heap[j]?=some (.cells cs t fr):=by
 intro j hj;obtain⟨hlen,⟨rfl,h0⟩|⟨g,cap,cur,rfl,hb,hg,rest⟩⟩:=h;·cases hj
 ·simp only [Value.ownBlock,G6] at hj;subst hj;exact⟨hb,_,_,_,hg⟩
theorem Av.jT {base:Nat} {v:ZC} (h:Av base w v ls) {g:Nat} (hg:g<base) (o:Nat) (u:ZC):Av base (w.setCell ⟨g,o,none⟩ u) v ls:=by refine Kq h (Ks w ⟨g,o,none⟩ u) (.inr fun e=>?_);have h9:base<=g:=(h.ownBlock _ e).1;omega
theorem Strs.other {B:Nat} {w':ZB} {v:ZC} (h:Strs B w v ls) {g:Nat} (hg:∀ k s,w.cell? ⟨g,k,none⟩≠some (.string s)) (hw:∀ k,k≠g->w'.heap[k]?=w.heap[k]?):Strs B w' v ls:=by
 obtain⟨a,cap,rfl,h1,h2,h3⟩:=h;refine⟨a,cap,rfl,h1,h2,fun hne=>?_⟩;obtain⟨b,off,ha,hb,hc⟩:=h3 hne;refine⟨b,off,ha,hb,fun j l hj=>?_⟩;have hj':=hc j l hj;by_cases e:b=g;·subst e;exact absurd hj' (hg _ _)
 ·rw [World.cell?_of_block (w:=w) (hw b e)];exact hj'
theorem As (w:ZB) (p:Addr) (u:ZC) (k:Nat) (hk:k≠p.block):(w.setCell p u).heap[k]?=w.heap[k]?:=by simp only [World.setCell];rw [Fp,Ai (fun e=>hk e.symm)]
theorem Cg {o:Oper} (s x:Operand) (ho:o.op=.call { callee:=.builtin .append,args:=#[s,x],argTypes:=#[23,23] }) (base:Nat) (v:ZC) (ls:List Q00) (hs:a.eval s=v) (hown:Av base w v ls) (g c:Nat) (l:Q00) (hx:a.eval x=.slice (some ⟨g,0,none⟩) 1 c) (hcell:w.cell? ⟨g,0,none⟩=some (ay l)) (hlen:ls.length<=1000000) (hbase:base<=w.heap.size) (h:∀ v' w',Av base w' v' (ls++[l])->w.grownBy w' v.ownBlock->K (a.put o.dst v') w'):o.wp prog a w K Q:=by
 obtain⟨i,hi,hz0,hz1,hz2⟩:=Jb Ur;refine wp_append_own w s x 23 ho base 9 i _ 1 16 underlying23 hi hz0 hz1 hz2 rfl dC v ls.length _ hs hown ⟨g,0,none⟩ 1 c [ay l] hx rfl ?_ ?_ ?_ ?_ hbase ?_;·exact FD103
 ·intro u hu;simp at hu;subst hu;rfl
 ·unfold maxLen;omega
 ·omega
 ·intro v' w' h1 h2 _;exact h v' w' (by unfold Av;simpa using h1) h2
theorem Q4 (w:ZB) (o1 o2 o3 o4 o5:Obj) (n:Nat) : ((((((w.alloc o1).alloc o2).alloc o3).drewN n).alloc o4).alloc o5).heap[w.heap.size]?=some o1/\((((((w.alloc o1).alloc o2).alloc o3).drewN n).alloc o4).alloc o5).heap[w.heap.size+1]?=some o2 /\ ((((((w.alloc o1).alloc o2).alloc o3).drewN n).alloc o4).alloc o5).heap[w.heap.size+2]?=some o3/\((((((w.alloc o1).alloc o2).alloc o3).drewN n).alloc o4).alloc o5).heap[w.heap.size+3]?=some o4 /\ ((((((w.alloc o1).alloc o2).alloc o3).drewN n).alloc o4).alloc o5).heap[w.heap.size+4]?=some o5:=by
 have e:((((((w.alloc o1).alloc o2).alloc o3).drewN n).alloc o4).alloc o5).heap=((((w.heap.push o1).push o2).push o3).push o4).push o5:=by
  have hd:∀ (u:ZB) (n:Nat),(u.drewN n).heap=u.heap:=fun u n=>by induction n with|zero=>rfl|succ n ih=>exact ih
  simp only [World.alloc,hd]
 rw [e];simp only [Dh,D9];refine⟨?_,?_,?_,?_,?_⟩;·rw [Ai oM,Ai oM,Ai oM,Ai oM,Ah trivial]
 ·rw [Ai oM,Ai oM,Ai oM,Ah trivial]
 ·rw [Ai oM,Ai oM,Ah trivial]
 ·rw [Ai oM,Ah trivial]
 ·rw [Ah trivial]
theorem Mb8 (kq m:Q00) (h i:Nat) (w:ZB) (hG:Gl w) (hs:kq.length<=1000000) (hm:m.length<=1000000) (hh:h<=8) (hi:i<2 ^ h) : ZE prog 37 #[↑kq,↑h,↑i,↑m] w (Pop w i (CH.sig kq i m) (CH.path (CH.keys kq h) i)):=by
 have hp:=Mu h hh;have d1:ZH ((h:Int)<0)=false:=sM;have d2:=naj ((8:Int)<(h:Int));have d3:ZH ((i:Int)<0)=false:=sM;have hw64:=No h hh;have d4:ZH ((2:Int) ^ h<=(i:Int))=false:=by rw [Dw,show ((2:Int) ^ h)=((2 ^ h:Nat):Int) from by simp];omega
 have hh0:(0:Int)<=(h:Int):=oM;refine (Iz (n:=4)).1 ?_;refine callsIn_of_wp_marks func37 rfl trivial ?_ rfl;simp only [ntmps37,Gu,Ap,Bf,Nat.reduceAdd,Nat.reduceSub,Gt,Gs,Hl,Gy,Eu,D6];refine J6.2 ?_;go_wp2_with fail;go_quiet (fail);clear d1 d2 d3 d4 hh0;go_wp2_with fail;refine CmZ (Ast m _) fun w1 hw1=>?_;have hI0:vI w w kq i [] w1:=by
  subst hw1;refine⟨sM,?_,?_,?_,⟨_,?_,Av.nil _ _⟩,?_⟩;·exact (Q4 w _ _ _ _ _ nq).1
  ·exact (Q4 w _ _ _ _ _ nq).2.1
  ·exact (Q4 w _ _ _ _ _ nq).2.2.1
  ·exact (Q4 w _ _ _ _ _ nq).2.2.2.1
  ·refine Fa (Fa (Go.below_drewN (Fa (Fa (Fa (Ac _ w) nR _) sM _) naf _) _) naf _) naf _
 have hcm:w1.cell? ⟨w+1+1+1+1,0,none⟩=some ↑m:=by subst hw1;exact Ab (Q4 w _ _ _ _ _ nq).2.2.2.2 0
 have hsz1:w1.heap.size=w.heap.size+1+1+1+1+1:=by subst hw1;simp
 have hG1:Gl w1:=hG.low hI0.below hG.size;clear hw1;go_wp2_with fail;refine (J6 (n:=4)).1 ?_;refine wpIn_rangeFunc_ownG (n:=4) (α:=DP) rfl dC (gf:=150) (lb:=#[.pointer (some ⟨w+1+1+1+1,0,none⟩)]) rfl trivial (enters_of func150 kR rfl) (Vg m oM 3 (w.heap.size+1+1+1+1) dC w1 hG1 oM hcm) walksK_t walksK_b (Ac _ _) (fun _=>rfl) (vI w w kq i) (fun _ _ _=>False) (vI.own _ _ _ _ _ oM) (fun _ _ _ _ _ hs _ _=>hs) hI0 (fun x=>{ tmps:=#[↑kq,↑h,↑i,↑m,.pointer (some ⟨w,0,none⟩),ZA,.pointer (some ⟨w+1,0,none⟩),ZA,.pointer (some ⟨w+1+1,0,none⟩),.int .i64 0,.pointer (some ⟨w+1+1+1,0,none⟩),.int .i64 (x.1.val:Nat),.int .i64 (x.2.val:Nat),↑h,.bool false,.bool false,↑h,.bool false,.bool false,.bool false,↑i,.bool false,.bool false,.bool false,↑i,↑h,.int .i64 (2 ^ h),.bool false,.bool false,ZA,↑i,.agg #[↑i,.slice none 0 0,.slice none 0 0],↑m,.func (.func 150) #[] #[.pointer (some ⟨w+1+1+1+1,0,none⟩)],.int .i64 (x.1.val:Nat),.int .i64 (x.2.val:Nat),ZA,ZA,ZA,ZA,ZA,ZA,ZA,ZA,ZA,ZA,ZA,ZA,ZA,ZA,ZA,ZA,ZA,ZA,ZA,ZA,ZA],defers:=[] }) ?assign ?body ?done ?stop;case assign =>intro l x W K hK;gi_wp2;exact hK
 case stop =>rintro D c pre W _ _ hx _;exact hx.elim
 case body =>
  rintro l pre x W hI hlen;have PV:=x.1.isLt;have QE:=x.2.isLt;have hGW:Gl W:=hG.low hI.below hG.size;obtain⟨hle,hb0,hb1,hbr,⟨v,hb3,hO⟩,hbw⟩:=hI;have hSk:∀ W',Below (w+5) W W'->W'.cell? ⟨w,0,none⟩=some ↑kq/\W'.cell? ⟨w+1,0,none⟩=some ↑i:=fun W' hb =>⟨by rw [hb.cell (p:=⟨w,0,none⟩) sM];simp [World.cell?,hb0],by rw [hb.cell (p:=⟨w+1,0,none⟩) sM];simp [World.cell?,hb1]⟩
  have hV:∀ W',Below (w+5) W W'->W'.cell? ⟨w+1+1+1,1,none⟩=some v:=fun W' hb=>by rw [hb.cell (p:=⟨w+1+1+1,1,none⟩) sM];simp [World.cell?,hb3]
  have hF:∀ W',Below (w+5) W W'->W'.frozen? ⟨w+1+1+1,1,none⟩=false:=fun W' hb=>by rw [hb.frozen (p:=⟨w+1+1+1,1,none⟩) sM];exact Ao hb3 _
  have hB1:Below (w+5) W W.drew:=(Ac _ W).drew;have hG1:Gl W.drew:=hGW.below (Ac _ W).drew;have hO1:Av (w+5) W.drew v (pre.map fun x=>CH.chain x.2.val (CH.start kq i x.1.val)):=hO.below (Ac _ W).drew;have hv1:=hV _ hB1;have PG:pre.length<=18:=oM;gi_wp2_with fail;refine Hc (fun W'=>W'.cell? ⟨w,0,none⟩=some ↑kq/\W'.cell? ⟨w+1,0,none⟩=some ↑i) _ _ kR kR ?_ (hSk _ hB1) fun kz=>?_;·rintro⟨a,w,h⟩;exact h
  refine tj 0 ?_;push_cast;refine tj 2 ?_;push_cast;refine tj 3 ?_;push_cast;refine tj 4 ?_;push_cast;refine tj 6 ?_;push_cast;refine D7 (rs:=[1,5]) kR sM ?_;refine Aw (o:=_) rfl (fun K hK=>?_) ?_;focus go_simp;refine hK.out _ _ (hSk _ hB1) fun kz=>?_;clear hK K;push_cast;refine rk 5 rfl fun K hK=>?_;go_simp;refine CmZ (V7 kq i x.1.val W.drew hG1 hs oM oM) fun w2 hb2=>?_;have hB2:Below (w+5) W w2:=hB1.trans (hb2.mono hle);have hG2:=hG1.below hb2;have hv2:=hV _ hB2;have hO2:=hO1.below hb2;go_wp2_with fail;refine hK.out _ _ (hSk _ hB2) fun kz=>?_;clear hK K;push_cast;refine rk 7 rfl fun K hK=>?_;go_simp;refine CmZ (Pp (CH.start kq i x.1.val) x.2.val w2 hG2 oM (by rw [iM];omega)) fun w3 fK=>?_;have hB3:Below (w+5) W w3:=hB2.trans (fK.mono (Aj hle hB2.size));have hv3:=hV _ hB3;have hv4:∀ o,(w3.alloc o).cell? ⟨w+1+1+1,1,none⟩=some v:=fun o=>hV _ (hB3.alloc (Aj hle hB3.size) o);have hO3:=hO2.below fK;go_wp2_with fail;refine hK.out _ _ (hSk _ hB3) fun kz=>?_;clear hK K;push_cast;refine rk 8 rfl fun K hK=>?_;go_simp;refine hK.out _ _ (hSk _ (hB3.alloc (Aj hle hB3.size) _)) fun kz=>?_;clear hK K;push_cast;refine rk 9 rfl fun K hK=>?_;rw [Ah rF];refine Cg _ _ rfl (w+5) v _ rfl (hO3.alloc _) w3.heap.size _ (CH.chain x.2.val (CH.start kq i x.1.val)) rfl (Cb _ _ _ _ _) (by rw [Ce];omega) (by have:=hB3.size;simp;omega) ?_;intro v5 w5 hO5 hg5;obtain⟨a5,c5,rfl,mJ,nD,oH⟩:=hO5.form;have hB5:Below (w+5) W w5:=(hB3.alloc (Aj hle hB3.size) _).grown hg5 (by have:=hB3.size;simp;omega) (fun k e=>(hO3.ownBlock k e).1);have hv5:=hV _ hB5;have hf5:=hF _ hB5;refine hK.out _ _ (hSk _ hB5) fun kz=>?_;clear hK K;push_cast;refine tj 10 ?_;push_cast;refine rk 11 rfl fun K hK=>?_;go_simp;refine hK.out _ _ (⟨(Bl _ ⟨w+1+1+1,1,none⟩ ⟨w,0,none⟩ _ (fun e=>by dsimp only at e;omega)).trans (hSk _ hB5).1,(World.cell?_setCell_far _ ⟨w+1+1+1,1,none⟩ ⟨w+1,0,none⟩ _ (fun e=>by dsimp only at e;omega)).trans (hSk _ hB5).2⟩) (fun kz=>?_);clear hK K;push_cast;refine Dc kR ?_ _
  rotate_left 1;refine Aw (o:=_) rfl (fun K hK=>?_) Dx;focus
   go_simp;refine CmZ (V7 kq i x.1.val W.drew hG1 hs oM oM) fun w2 hb2=>?_;have hB2:Below (w+5) W w2:=hB1.trans (hb2.mono hle);have hG2:=hG1.below hb2;have hv2:=hV _ hB2;have hO2:=hO1.below hb2;go_wp2_with fail;refine hK.out _ _ (hSk _ hB2) fun kz=>?_;clear hK K;push_cast;refine D7 (rs:=[1,7]) kR sM ?_;refine Aw (o:=_) rfl (fun K hK=>?_) ?_;focus go_simp;refine hK.out _ _ (hSk _ hB2) fun kz=>?_;clear hK K;push_cast;refine rk 7 rfl fun K hK=>?_;go_simp;refine CmZ (Pp (CH.start kq i x.1.val) x.2.val w2 hG2 oM (by rw [iM];omega)) fun w3 fK=>?_;have hB3:Below (w+5) W w3:=hB2.trans (fK.mono (Aj hle hB2.size));have hv3:=hV _ hB3;have hv4:∀ o,(w3.alloc o).cell? ⟨w+1+1+1,1,none⟩=some v:=fun o=>hV _ (hB3.alloc (Aj hle hB3.size) o);have hO3:=hO2.below fK;go_wp2_with fail;refine hK.out _ _ (hSk _ hB3) fun kz=>?_;clear hK K;push_cast;refine rk 8 rfl fun K hK=>?_;go_simp;refine hK.out _ _ (hSk _ (hB3.alloc (Aj hle hB3.size) _)) fun kz=>?_;clear hK K;push_cast;refine rk 9 rfl fun K hK=>?_;rw [Ah rF];refine Cg _ _ rfl (w+5) v _ rfl (hO3.alloc _) w3.heap.size _ (CH.chain x.2.val (CH.start kq i x.1.val)) rfl (Cb _ _ _ _ _) (by rw [Ce];omega) (by have:=hB3.size;simp;omega) ?_;intro v5 w5 hO5 hg5;obtain⟨a5,c5,rfl,mJ,nD,oH⟩:=hO5.form;have hB5:Below (w+5) W w5:=(hB3.alloc (Aj hle hB3.size) _).grown hg5 (by have:=hB3.size;simp;omega) (fun k e=>(hO3.ownBlock k e).1);have hv5:=hV _ hB5;have hf5:=hF _ hB5;refine hK.out _ _ (hSk _ hB5) fun kz=>?_;clear hK K;push_cast;refine tj 10 ?_;push_cast;refine rk 11 rfl fun K hK=>?_;go_simp;refine hK.out _ _ (⟨(Bl _ ⟨w+1+1+1,1,none⟩ ⟨w,0,none⟩ _ (fun e=>by dsimp only at e;omega)).trans (hSk _ hB5).1,(World.cell?_setCell_far _ ⟨w+1+1+1,1,none⟩ ⟨w+1,0,none⟩ _ (fun e=>by dsimp only at e;omega)).trans (hSk _ hB5).2⟩) (fun kz=>?_);clear hK K;push_cast;refine Dc kR ?_ _
   rotate_left 1;refine Aw (o:=_) rfl (fun K hK=>?_) Dx;focus
    go_simp;refine CmZ (Pp (CH.start kq i x.1.val) x.2.val w2 hG2 oM (by rw [iM];omega)) fun w3 fK=>?_;have hB3:Below (w+5) W w3:=hB2.trans (fK.mono (Aj hle hB2.size));have hv3:=hV _ hB3;have hv4:∀ o,(w3.alloc o).cell? ⟨w+1+1+1,1,none⟩=some v:=fun o=>hV _ (hB3.alloc (Aj hle hB3.size) o);have hO3:=hO2.below fK;go_wp2_with fail;refine hK.out _ _ (hSk _ hB3) fun kz=>?_;clear hK K;push_cast;refine D7 (rs:=[1,8]) kR sM ?_;refine Aw (o:=_) rfl (fun K hK=>?_) ?_;focus go_simp;refine hK.out _ _ (hSk _ hB3) fun kz=>?_;clear hK K;push_cast;refine rk 8 rfl fun K hK=>?_;go_simp;refine hK.out _ _ (hSk _ (hB3.alloc (Aj hle hB3.size) _)) fun kz=>?_;clear hK K;push_cast;refine rk 9 rfl fun K hK=>?_;rw [Ah rF];refine Cg _ _ rfl (w+5) v _ rfl (hO3.alloc _) w3.heap.size _ (CH.chain x.2.val (CH.start kq i x.1.val)) rfl (Cb _ _ _ _ _) (by rw [Ce];omega) (by have:=hB3.size;simp;omega) ?_;intro v5 w5 hO5 hg5;obtain⟨a5,c5,rfl,mJ,nD,oH⟩:=hO5.form;have hB5:Below (w+5) W w5:=(hB3.alloc (Aj hle hB3.size) _).grown hg5 (by have:=hB3.size;simp;omega) (fun k e=>(hO3.ownBlock k e).1);have hv5:=hV _ hB5;have hf5:=hF _ hB5;refine hK.out _ _ (hSk _ hB5) fun kz=>?_;clear hK K;push_cast;refine tj 10 ?_;push_cast;refine rk 11 rfl fun K hK=>?_;go_simp;refine hK.out _ _ (⟨(Bl _ ⟨w+1+1+1,1,none⟩ ⟨w,0,none⟩ _ (fun e=>by dsimp only at e;omega)).trans (hSk _ hB5).1,(World.cell?_setCell_far _ ⟨w+1+1+1,1,none⟩ ⟨w+1,0,none⟩ _ (fun e=>by dsimp only at e;omega)).trans (hSk _ hB5).2⟩) (fun kz=>?_);clear hK K;push_cast;refine Dc kR ?_ _
    rotate_left 1;refine Aw (o:=_) rfl (fun K hK=>?_) Dx;focus go_simp;refine hK.out _ _ (hSk _ (hB3.alloc (Aj hle hB3.size) _)) fun kz=>?_;clear hK K;push_cast;refine rk 1 rfl fun K hK=>?_;go_simp;refine hK.out _ _ (hSk _ (hB3.alloc (Aj hle hB3.size) _)) fun kz=>?_;clear hK K;push_cast;refine rk 9 rfl fun K hK=>?_;rw [Ah rF];refine Cg _ _ rfl (w+5) v _ rfl (hO3.alloc _) w3.heap.size _ (CH.chain x.2.val (CH.start kq i x.1.val)) rfl (Cb _ _ _ _ _) (by rw [Ce];omega) (by have:=hB3.size;simp;omega) ?_;intro v5 w5 hO5 hg5;obtain⟨a5,c5,rfl,mJ,nD,oH⟩:=hO5.form;have hB5:Below (w+5) W w5:=(hB3.alloc (Aj hle hB3.size) _).grown hg5 (by have:=hB3.size;simp;omega) (fun k e=>(hO3.ownBlock k e).1);have hv5:=hV _ hB5;have hf5:=hF _ hB5;refine hK.out _ _ (hSk _ hB5) fun kz=>?_;clear hK K;push_cast;refine tj 10 ?_;push_cast;refine rk 11 rfl fun K hK=>?_;go_simp;refine hK.out _ _ (⟨(Bl _ ⟨w+1+1+1,1,none⟩ ⟨w,0,none⟩ _ (fun e=>by dsimp only at e;omega)).trans (hSk _ hB5).1,(World.cell?_setCell_far _ ⟨w+1+1+1,1,none⟩ ⟨w+1,0,none⟩ _ (fun e=>by dsimp only at e;omega)).trans (hSk _ hB5).2⟩) (fun kz=>?_);clear hK K;push_cast;refine Dc kR ?_ _
  all_goals
   have hbd:Below W W w3:=((Ac _ W).drew.trans (hb2.mono nR)).trans (fK.mono hb2.size);have hko:∀ u,KeepsOthers W (w5.setCell ⟨w+1+1+1,1,none⟩ u):=fun u =>(((Kh hbd).trans (KeepsOthers.alloc _ _)).trans (KeepsOthers.of_grownBy hg5 (fun j o hj ho=>by obtain⟨_,cs,t,fr,hcs⟩:=(hO3.alloc _).ownBlock j hj;rw [ho] at hcs;cases hcs;rfl))).trans (KeepsOthers.setCell _ _ _);have hk5:∀ k,k<w.heap.size+5->w5.heap[k]?=W.heap[k]?:=fun k hk=>hB5.block k hk;have hks:∀ k u,k≠w.heap.size+1+1+1->(w5.setCell ⟨w+1+1+1,1,none⟩ u).heap[k]?=w5.heap[k]?:=fun k u hk=>by simp only [World.setCell];rw [Fp,Ai (fun e=>hk e.symm)]
   refine⟨(hko _).from _,(hko _).walks,⟨?_,?_,?_,?_,⟨.slice a5 (pre.length+1) c5,?_,?_⟩,?_⟩⟩;·have:=(hko ZA).size;simp at this ⊢;omega
   ·rw [hks _ _ oM,hk5 _ oM];exact hb0
   ·rw [hks _ _ oM,hk5 _ oM];exact hb1
   ·rw [hks _ _ oM,hk5 _ oM];exact hbr
   ·exact Al w5 (w+3) 1 _ _ _ _ ((hk5 _ oM).trans hb3)
   ·rw [Gi];have h0:=hO5;simp only [Av,Am,Ce,Ap,Bf,Ba] at h0 ⊢;exact h0.kept (Ks w5 ⟨w+1+1+1,1,none⟩ _) (by
     rcases a5 with _|p;·exact .inl rfl
     ·refine .inr ?_;intro e;have h9:w.heap.size+5<=w.heap.size+1+1+1:=(hO5.ownBlock _ e).1;omega)
   ·exact⟨hB5.os.trans hbw.os,hB5.tape.trans hbw.tape,hB5.output.trans hbw.output,by have:=hbw.size;have:=(hko ZA).size;simp at this ⊢;omega,fun k hk=>by rw [hks _ _ oM,hk5 _ oM];exact hbw.block k hk⟩
 case done =>
  clear hG1 hcm;intro D xs W hD hxs hI hdef;subst hxs;have hGW:Gl W:=hG.low hI.below hG.size;obtain⟨hle,hb0,hb1,hbr,⟨v,hb3,hO⟩,hbw⟩:=hI;have hSk:∀ W',Below (w+5) W W'->W'.cell? ⟨w,0,none⟩=some ↑kq/\W'.cell? ⟨w+1,0,none⟩=some ↑i:=fun W' hb =>⟨by rw [hb.cell (p:=⟨w,0,none⟩) sM];simp [World.cell?,hb0],by rw [hb.cell (p:=⟨w+1,0,none⟩) sM];simp [World.cell?,hb1]⟩
  have hB1:Below (w+5) W W.drew:=(Ac _ W).drew;have hG1:Gl W.drew:=hGW.below (Ac _ W).drew;obtain⟨av,cv,ev,hvf⟩:=hO.form;rw [Ce,dO] at ev;subst ev;clear hvf;have hV:∀ W',Below (w+5) W W'->W'.cell? ⟨w+1+1+1,2,none⟩=some (.slice none 0 0):=fun W' hb=>by rw [hb.cell (p:=⟨w+1+1+1,2,none⟩) sM];simp [World.cell?,hb3]
  have hF:∀ W',Below (w+5) W W'->W'.frozen? ⟨w+1+1+1,2,none⟩=false:=fun W' hb=>by rw [hb.frozen (p:=⟨w+1+1+1,2,none⟩) sM];exact Ao hb3 _
  have hkl:∀ l∈CH.keys kq h,l.length<=1000000:=fun l hl=>by simp only [CH.keys,Ew] at hl;obtain⟨k,_,rfl⟩:=hl;rw [og];omega
  have h2n:(CH.keys kq h).length=2 ^ h:=CH.length_keys _ _;go_wp2_with fail;go_region_held3 (fun W'=>W'.cell? ⟨w,0,none⟩=some ↑kq/\W'.cell? ⟨w+1,0,none⟩=some ↑i) (first|exact⟨(Bl _ ⟨w+1+1+1,2,none⟩ ⟨w,0,none⟩ _ (fun e=>by dsimp only at e;omega)).trans (hSk _ hB3).1,(World.cell?_setCell_far _ ⟨w+1+1+1,2,none⟩ ⟨w+1,0,none⟩ _ (fun e=>by dsimp only at e;omega)).trans (hSk _ hB3).2⟩|exact hSk _ hB3|exact hSk _ hB2|exact hSk _ hB1)
   (first
   |(go_at_call 35;refine (Ggy kq h W.drew hG1 hs hh).mono ?_;rintro e w2 ⟨v2,rfl,hO2,hb2⟩;have hB2:Below (w+5) W w2:=hB1.trans (hb2.mono hle);have hG2:=hG1.below hb2;obtain⟨a2,c2,e2,hf2⟩:=hO2.form;rw [h2n] at e2;subst e2;clear hf2)
   |(go_at_call 89;refine (Mkb _ (CH.keys kq h) i w2 hG2 hO2.strs oM oM (fun l hl=>hkl l hl)).mono ?_;rintro e w3 ⟨v3,rfl,hS3,fK⟩;have hB3:Below (w+5) W w3:=hB2.trans (fK.mono (Aj hle hB2.size));have hv3:w3.cell? ⟨w+1+1+1,2,none⟩=some (.slice none 0 0):=hV _ hB3;have hf3:=hF _ hB3;have HS3:=Aa hS3;obtain⟨a3,c3,e3,AA⟩:=hS3;generalize hn3:(CH.path (CH.keys kq h) i).length=n3 at e3;subst e3;clear AA hn3)
   |fail)
  have hk3:∀ k,k<w.heap.size+5->w3.heap[k]?=W.heap[k]?:=fun k hk=>hB3.block k hk;have h93:=Al w3 (w+1+1+1) 2 (.slice a3 n3 c3) _ _ _ ((hk3 _ oM).trans hb3);have h92:(w3.setCell ⟨w+1+1+1,2,none⟩ (.slice a3 n3 c3)).heap[w.heap.size+1+1]?=some (.cells #[.int .i64 0,.slice none 0 0,.slice none 0 0] 25 (0,0)):=by simp only [World.setCell];rw [Fp,Ai oM,hk3 _ oM];exact hbr
  simp only [List.setIfInBounds_toArray,List.set_cons_zero,List.set_cons_succ] at h93;have hb9:Below w w (w3.setCell ⟨w+1+1+1,2,none⟩ (.slice a3 n3 c3)):=(hbw.trans (hB3.mono oM)).setCell naf _;have hO3:Av (w+5) w3 (.slice av 18 cv) ((fE m).map fun x=>CH.chain x.2.val (CH.start kq i x.1.val)):=((hO.below (Ac _ W).drew).below hb2).below fK;have hO9:Av (w+5) (w3.setCell ⟨w+1+1+1,2,none⟩ (.slice a3 n3 c3)) (.slice av 18 cv) ((fE m).map fun x=>CH.chain x.2.val (CH.start kq i x.1.val)):=hO3.jT oM _ _;have hd3:w3.heap[D]?=some (.deferred (some [])):=by
   have hDlt:D<W.heap.size:=(aZ hdef)
   have KU:D<w2.heap.size:=Af hDlt hb2.size;rw [fK.block D KU,hb2.block D hDlt];exact hdef
  have QU:D≠w.heap.size+1+1+1:=fun e=>by rw [e] at hdef;rw [hb3] at hdef;cases hdef
  have rE:D≠w.heap.size+1+1:=fun e=>by rw [e] at hdef;rw [hbr] at hdef;cases hdef
  have hS9:Hid (Strs w3 (w3.setCell ⟨w+1+1+1,2,none⟩ (.slice a3 n3 c3)) (.slice a3 n3 c3) (CH.path (CH.keys kq h) i)):=Aa (by refine HS3.out.other (g:=w.heap.size+1+1+1) (fun k s=>?_) (fun k hk=>As _ _ _ _ hk);rw [Ab ((hk3 _ oM).trans hb3) k];rcases k with _|_|_|k <;> simp);have hd9:(w3.setCell ⟨w+1+1+1,2,none⟩ (.slice a3 n3 c3)).heap[D]?=some (.deferred (some [])):=by simp only [World.setCell];rw [Fp,Ai (fun e=>QU e.symm)];exact hd3
  have hs9:w.heap.size+5<=w3.heap.size:=Aj hle hB3.size;have OL:(w3.setCell ⟨w+1+1+1,2,none⟩ (.slice a3 n3 c3)).heap.size=w3.heap.size:=by simp [World.setCell]
  generalize hW9:w3.setCell ⟨w+1+1+1,2,none⟩ (.slice a3 n3 c3)=W9 at *;have c0:=Ab h93 0;have c1:=Ab h93 1;have c2':=Ab h93 2;have d0:=Ab h92 0;have d1:=Ab h92 1;have d2:=Ab h92 2;have f0:=Ao h92 0;have f1:=Ao h92 1;have f2:=Ao h92 2;simp only [Hy,H9,Ir] at c0 c1 c2' d0 d1 d2;go_wp2_with fail;refine⟨sM,.inl ⟨_,_,rfl,run_takeDeferred (ds:=[]) ?_,?_⟩⟩;·simp only [World.setCell];rw [Fp,Ai (fun e=>rE e.symm),Fp,Ai (fun e=>rE e.symm),Fp,Ai (fun e=>rE e.symm)];exact hd9
  have g0:=Al W9 (w+1+1) 0 ↑i _ _ _ h92;have g1:=Al _ (w+1+1) 1 (.slice av 18 cv) _ _ _ g0;have g2:=Al _ (w+1+1) 2 (.slice a3 n3 c3) _ _ _ g1;simp only [List.setIfInBounds_toArray,List.set_cons_zero,List.set_cons_succ] at g0 g1 g2;have hDw:w.heap.size<=D:=oM;generalize hX0:W9.setCell ⟨w+1+1,0,none⟩ ↑i=X0 at *;generalize hX1:X0.setCell ⟨w+1+1,1,none⟩ (.slice av 18 cv)=X1 at *;generalize hX2:X1.setCell ⟨w+1+1,2,none⟩ (.slice a3 n3 c3)=X2 at *;have hdX:X2.heap[D]?=some (.deferred (some [])):=by rw [<- hX2,As _ _ _ _ rE,<- hX1,As _ _ _ _ rE,<- hX0,As _ _ _ _ rE];exact hd9
  have hbX:Below w w X2:=by rw [<- hX2,<- hX1,<- hX0];exact ((hb9.setCell naf _).setCell naf _).setCell naf _
  have hOX:Av (w+5) X2 (.slice av 18 cv) ((fE m).map fun x=>CH.chain x.2.val (CH.start kq i x.1.val)):=by rw [<- hX2,<- hX1,<- hX0];exact ((hO9.jT oM _ _).jT oM _ _).jT oM _ _
  have hsX:X2.heap.size=w3.heap.size:=by rw [<- hX2,<- hX1,<- hX0];simp [World.setCell,OL]
  have hSX:Strs w3 X2 (.slice a3 n3 c3) (CH.path (CH.keys kq h) i):=by
   refine hS9.out.other (g:=w.heap.size+1+1) (fun k s=>?_) fun k hk=>?_;·rw [Ab h92 k];rcases k with _|_|_|k <;> simp
   ·rw [<- hX2,As _ _ _ _ hk,<- hX1,As _ _ _ _ hk,<- hX0,As _ _ _ _ hk]
  have hgp:=grownBy_putObj' X2 D (.deferred none);have hgX:(X2.putObj D (.deferred none)).heap[w.heap.size+1+1]?=X2.heap[w.heap.size+1+1]?:=hgp.block _ (aZ g2) (fun e=>rE (by simpa using e.symm));have hX3:=hgX.trans g2;have k0:=Ab hX3 0;have k1:=Ab hX3 1;have k2:=Ab hX3 2;simp only [Hy,H9,Ir] at k0 k1 k2;refine⟨.tuple #[.agg #[↑i,.slice av 18 cv,.slice a3 n3 c3],.int .i64 0],?_,_,_,rfl,?_,?_,?_⟩;·simp [results,Tryz.f37,go_sem,k0,k1,k2]
  ·have h1:=Av.strs (Km hOX hgp (fun r e=>by cases e;exact⟨_,hdX,rfl⟩));rw [Pbo];exact h1
  ·have h2:Strs w3 (X2.putObj D (.deferred none)) (.slice a3 n3 c3) (CH.path (CH.keys kq h) i):=by refine hSX.other (g:=D) (fun k s=>by simp [World.cell?,hdX]) fun k hk=>?_;simp only [World.putObj];exact Iw (fun e=>hk e.symm)
   exact h2.mono (by have:=hgp.size;omega)
  ·exact hbX.grown hgp hbX.size (fun k e=>by cases e;exact hDw)
end
section
open Go.Lib Go.Proofs.Tryz Go.RowKit Go.Shelf CH
variable {F:Fence} {n:Nat} {P:Program}
def MP {α:Type} (p:Nat) (F:Fence) (n:Nat) (P:Program) (g:Nat) (lb:Array ZC) (encs:α->Array ZC) (Kp:ZB->ZB->Prop) (S Sp:List α->Prop) (Ok:List α->α->Prop) (w:ZB):Prop := ∀ (l:Nat) (J Jx:List α->ZB->Prop) (W:ZB),Below w w W->AbidesFrom W J->AbidesFrom W Jx->(∀ pre A v,J pre A->J pre (A.setCell ⟨p,0,none⟩ v)) -> (∀ pre x A,J pre A->Ok pre x->YieldAt F (n - 1) P l (encs x) A fun e B=>(e=.returned (.bool true)/\J (pre++[x]) B/\Kp A B)\/(e=.returned (.bool false)/\Jx (pre++[x]) B)) -> J [] W -> CallsIn F n P g (#[.func (.yield l) #[] #[]]++lb) W fun e B=>(∃ v,e=.returned v)/\((∃ xs,S xs/\J xs B)\/(∃ pre,Sp pre/\Jx pre B))
theorem Xu {α:Type} {g:Operand} {ps:Array Tmp} {assign body:Code} {Q:Exit->Act->ZB->Prop} {a:Act} {w:ZB} (p:Nat) (hp:p<w.heap.size)
  (hro:F.round=none) (h1:1<=n) {gf:Nat} {lb:Array ZC} (hg:a.eval g=.func (.func gf) #[] lb) (hFg:F.fn gf) (eg:∀ args w,(callFunc gf args).run P w=.ok (.enter gf args) w)
  {encs:α->Array ZC} {Kp:ZB->ZB->Prop} {S Sp:List α->Prop} {Ok:List α->α->Prop} {w0:ZB} (hseq:MP p F (n - 1) P gf lb encs Kp S Sp Ok w0)
  (hKt:∀ {A B C:ZB},Kp A B->Kp B C->Kp A C) (hKb:∀ (W:ZB) (l:Nat) (o o':Obj),w.heap.size<=l->W.heap[l]?=some o->o.isCells=false->o.isWalk=false->Kp W (W.putObj l o'))
  (hb0:Below w0 w0 w) (hps:∀ x,(encs x).size=ps.size)
  (I:List α->ZB->Prop) (Ix:Code->List α->ZB->Prop) (hI:OwnFrom w I) (hIx:∀ c,OwnFrom w (Ix c)) (hIp:∀ pre A v,I pre A->I pre (A.setCell ⟨p,0,none⟩ v)) (h0:I [] w) (a₁:α->Act)
  (hassign:∀ (l:Nat) (x:α) (W:ZB) (K:Act->ZB->Prop),K (a₁ x) W ->
   assign.wpIn (F.inRound l) (n - 1 - 1) P (Exit.then K (fun _ _ _=>False)) { tmps:=(ps.zip (encs x)).foldl (fun t (p,v)=>t.setIfInBounds p v) a.tmps,defers:=[] } W)
  (hbody:∀ (l:Nat) (pre:List α) (x:α) (W:ZB),I pre W->Ok pre x->body.wpIn (F.inRound l) (n - 1 - 1) P (ownPostG w Kp I Ix (pre++[x]) W) (a₁ x) W)
  (hdone:∀ (D:Nat) (xs:List α) (W:ZB),w.heap.size<=D->S xs->I xs W->W.heap[D]?=some (.deferred (some []))->Q .normal { a with defers:={ target:=.collected D,args:=#[] }::a.defers } W)
  (hstop:∀ (D:Nat) (c:Code) (pre:List α) (W:ZB),w.heap.size<=D->Sp pre->Ix c pre W->W.heap[D]?=some (.deferred (some []))->c.wpIn F n P Q { a with defers:={ target:=.collected D,args:=#[] }::a.defers } W) :
  (Code.rangeFunc g ps assign body).wpIn F n P Q a w:=by
 refine wpIn_rangeFunc ?_
 intro fn hfn
 rw [hro]
 obtain⟨rec,hrec⟩:∃ rec:LoopState->Option Code->Loop,rec=fun st pe=>{ state:=st,pending:=pe,fn,tmps:=a.tmps,params:=ps,assign,body,defers:=w.heap.size }:=⟨_,rfl⟩
 obtain⟨V,hV⟩:=naa ((w.alloc (.deferred (some []))).alloc (.loop (rec .ready none)))
 have bV:Below w w V:=by rw [<- hV];exact ((Ac _ w).alloc nR _).alloc sM _
 have zV:V.heap.size=w.heap.size+1+1:=by rw [<- hV];simp
 have yN:V.heap[w.heap.size+1]?=some (.loop (rec .ready none)):=by
  exact FD101
 have wJ:V.heap[w.heap.size]?=some (.deferred (some [])):=by
  rw [<- hV];exact (Ij _ _ _ sM).trans (Ag w _)
 have IV:I [] V:=by rw [<- hV];exact hI.alloc _ (hI.alloc _ h0)
 refine⟨w+1,[{ target:=.collected w.heap.size,args:=#[] }],V,{ target:=.fn (.func gf) lb,args:=#[.func (.yield (w.heap.size+1)) #[] #[]] },V,gf,
  #[.func (.yield (w.heap.size+1)) #[] #[]]++lb,V,?_,?_,?_,?_,fun _=>h1,?_⟩
 ·rw [<- hV,hrec];exact run_enterLoop_outer _ _ _ _ _
 ·simp only [resolve,hg]
  simp [go_sem]
 ·intro f' hf';simp [Target.leads] at hf';subst hf';exact hFg
 ·simp [invoke,go_sem,eg]
 have far:∀ {A:ZB} {row:Option Nat},(∀ r,row=some r->V.heap.size<=r/\∃ o:Obj,A.heap[r]?=some o/\o.isWalk=true)->∀ r,row=some r->w.heap.size<=r/\∃ o:Obj,A.heap[r]?=some o/\o.isCells=false :=
  fun hr r e=>by obtain⟨h1,o,h2,h3⟩:=hr r e;exact⟨oM,o,h2,Obj.not_cells_of_walk h3⟩
 have put:∀ (A:ZB) (k:Nat) (v:ZC),k≠p->(A.setCell ⟨p,0,none⟩ v).heap[k]?=A.heap[k]?:=fun A k v hk=>As _ _ _ _ hk
 refine (hseq (w+1)
  (fun pre A=>I pre A/\A.heap[w.heap.size+1]?=some (.loop (rec .ready none))/\A.heap[w.heap.size]?=some (.deferred (some [])))
  (fun pre A=>∃ c,Ix c pre A/\A.heap[w.heap.size+1]?=some (.loop (rec .done (some c)))/\A.heap[w.heap.size]?=some (.deferred (some [])))
  V (hb0.trans (bV.mono hb0.size))
  (fun s A B row hs hg' hr=>⟨hI s A B row hs.1 hg' (far hr),(grownBy_keeps hg' (fun r e=>(hr r e).2) hs.2.1 rfl).trans hs.2.1,(grownBy_keeps hg' (fun r e=>(hr r e).2) hs.2.2 rfl).trans hs.2.2⟩)
  (fun s A B row hs hg' hr=>by
   obtain⟨c,hc,hl,hk⟩:=hs
   exact⟨c,hIx c s A B row hc hg' (far hr),(grownBy_keeps hg' (fun r e=>(hr r e).2) hl rfl).trans hl,(grownBy_keeps hg' (fun r e=>(hr r e).2) hk rfl).trans hk⟩)
  (fun pre A v hs=>⟨hIp pre A v hs.1,(put A _ v oM).trans hs.2.1,(put A _ v oM).trans hs.2.2⟩)
  ?_ ⟨IV,yN,wJ⟩).mono ?_
 ·rintro pre x A ⟨hi,hl,hk⟩ hlen
  have hlt:w.heap.size+1<A.heap.size:=(aZ hl)
  have hy:=run_yield (P:=P) (args:=encs x) hl (by rw [hrec];exact hps x)
  rw [hrec] at hy
  refine⟨fn,_,assign,body,hy,roundIn_of_wpIn hfn (hassign _ x A _ ⟨_,run_beginRound hl (by rw [hrec]),?_⟩)⟩
  obtain⟨busy,jZ⟩:=nad (.loop { rec .ready none with state:=.busy }:Obj)
  rw [<- jZ]
  have l2:(A.putObj (w+1) busy).heap[w.heap.size+1]?=some busy:=World.putObj_heap_same hlt
  have k2:(A.putObj (w+1) busy).heap[w.heap.size]?=some (.deferred (some [])):=(World.putObj_heap_other oM).trans hk
  have b2:Kp A (A.putObj (w+1) busy):=hKb _ _ _ _ oM hl rfl rfl
  have i2:I pre (A.putObj (w+1) busy):=hI.putObj _ hi oM hl rfl
  have ends:∀ (jump:Option Code) (C:ZB),KeepsFrom w (A.putObj (w+1) busy) C ->
    (Instr.endRound (w+1) jump).run P C=.ok (.bool jump.isNone) (C.putObj (w+1) (.loop (rec (if jump.isNone then .ready else .done) jump))) /\
    C.heap[w.heap.size+1]?=some busy /\
    (C.putObj (w+1) (.loop (rec (if jump.isNone then .ready else .done) jump))).heap[w.heap.size+1]?=some (.loop (rec (if jump.isNone then .ready else .done) jump)) /\
    (C.putObj (w+1) (.loop (rec (if jump.isNone then .ready else .done) jump))).heap[w.heap.size]?=some (.deferred (some [])):=fun jump C hC=>by
   have l3:=hC.same _ _ oM l2 (by rw [jZ];rfl)
   have l3':=l3
   rw [jZ] at l3'
   have:=run_endRound (P:=P) jump l3'
   rw [hrec] at this ⊢
   exact⟨this,l3,World.putObj_heap_same (aZ l3),(World.putObj_heap_other oM).trans (hC.same _ _ nR k2 rfl)⟩
  refine wpIn_mono (hbody _ pre x _ i2 hlen) ?_
  have jumps:∀ (c:Code) (C:ZB),KeepsFrom w (A.putObj (w+1) busy) C/\Ix c (pre++[x]) C->∃ v B,(Instr.endRound (w+1) (some c)).run P C=.ok v B/\((Ending.returned v=.returned (.bool true)/\(I (pre++[x]) B/\B.heap[w.heap.size+1]?=some (.loop (rec .ready none))/\B.heap[w.heap.size]?=some (.deferred (some [])))/\Kp A B)\/(Ending.returned v=.returned (.bool false)/\∃ c,Ix c (pre++[x]) B/\B.heap[w.heap.size+1]?=some (.loop (rec .done (some c)))/\B.heap[w.heap.size]?=some (.deferred (some [])))):=fun c C h=>by
   obtain⟨hr,hl3,hl4,hk4⟩:=ends (some c) C h.1
   exact⟨_,_,hr,.inr ⟨rfl,c,(hIx c).putObj _ h.2 oM hl3 (by rw [jZ];rfl),hl4,hk4⟩⟩
  rintro e a3 C hC
  cases e with
  |normal =>
   obtain⟨hk3,hkp3,hi3⟩:=hC
   obtain⟨hr,hl3,hl4,hk4⟩:=ends none C hk3
   exact⟨_,_,hr,.inl ⟨rfl,⟨hI.putObj _ hi3 oM hl3 (by rw [jZ];rfl),hl4,hk4⟩,hKt (hKt b2 hkp3) (hKb _ _ _ _ oM hl3 (by rw [jZ];rfl) (by rw [jZ];rfl))⟩⟩
  |ret=>exact jumps _ C hC
  |exit id=>exact jumps _ C hC
  |goto t=>exact jumps _ C hC
  |panic ch=>exact hC.elim
  |outgrown=>exact hC.elim
 ·rintro e B ⟨⟨v,rfl⟩,(⟨xs,hS,hi,hl,hk⟩|⟨pre,hSp,c,hi,hl,hk⟩)⟩
  ·exact FD58
  ·exact⟨some c,_,by have:=run_endLoop (P:=P) hl (by rw [hrec];simp);rw [hrec] at this;exact this,hstop _ c pre _ nR hSp ((hIx c).putObj _ hi oM hl rfl) ((World.putObj_heap_other oM).trans hk)⟩
end
end Go.Proofs.Y
namespace CH
section
theorem nO (k:Int) (s:Str):slen k s<=s.length:=by
 have h1:∀ (i:Nat) (set:Str),isIn s i set=true->i<s.length:=fun i set h=>by
  unfold isIn at h;split at h;·cases h
  ·rename_i c hc;exact (lS hc)
 have h2:dK s=true->0<s.length:=fun h=>by
  unfold dK at h;split at h;·cases h
  ·rename_i c hc;exact (lS hc)
 unfold slen;split
 ·split;·rename_i h;have:=h1 _ _ h;omega
  ·omega
 split
 ·split
  ·rename_i h;have:=h2 h;split;·rename_i h';have:=h1 _ _ h';omega
   ·omega
  ·omega
 split
 ·split;·rename_i h;have:=h1 _ _ h;omega
  ·omega
 split
 ·split;·rename_i h;simp only [Aq] at h;have:=h1 _ _ h.2;omega
  ·split
   ·rename_i h;simp only [Ej] at h;rcases h with h|h;·have:=h1 _ _ h;omega
    ·have:=h1 _ _ h;omega
   ·omega
 ·omega
theorem aU (k:Int) (f:Nat) (s:Str) (h:slen k s=0):letters k (f+1) s=([],s):=by show (if _ then _ else _)=_;rw [Ah h]
theorem Jk (k:Int) (f:Nat) (s:Str) (h:slen k s≠0):letters k (f+1) s=((s.take (slen k s))::(letters k f (s.drop (slen k s))).1,(letters k f (s.drop (slen k s))).2):=by show (if _ then _ else _)=_;rw [Ai h]
theorem kK (k:Int):∀ (f:Nat) (s:Str),(letters k f s).1.length=f->slen k (letters k f s).2≠0 -> letters k (f+1) s=((letters k f s).1++[(letters k f s).2.take (slen k (letters k f s).2)],(letters k f s).2.drop (slen k (letters k f s).2)):=by
 intro f;induction f with
 |zero =>intro s _ h;have h':slen k s≠0:=h;rw [Jk k 0 s h'];rfl
 |succ f ih =>
  intro s hl h;by_cases h0:slen k s=0;·rw [aU k f s h0] at hl;simp at hl
  ·rw [Jk k f s h0] at hl h;simp at hl;have:=ih (s.drop (slen k s)) hl h;rw [show letters k (f+1+1) s=((s.take (slen k s))::(letters k (f+1) (s.drop (slen k s))).1,(letters k (f+1) (s.drop (slen k s))).2) from Jk k (f+1) s h0];rw [this];rw [show letters k (f+1) s=((s.take (slen k s))::(letters k f (s.drop (slen k s))).1,(letters k f (s.drop (slen k s))).2) from Jk k f s h0];rfl
theorem nZ (k:Int):∀ (f:Nat) (s:Str),slen k (letters k f s).2=0->∀ g,f<=g->letters k g s=letters k f s:=by
 intro f;induction f with
 |zero =>
  intro s h g hg;cases g with
  |zero=>rfl
  |succ g =>have h':slen k s=0:=h;rw [aU k g s h'];rfl
 |succ f ih =>
  intro s h g hg;cases g with
  |zero=>omega
  |succ g =>
   by_cases h0:slen k s=0;·rw [aU k f s h0,aU k g s h0]
   ·rw [Jk k f s h0] at h;rw [Jk k f s h0,Jk k g s h0,ih _ h g oM]
theorem kL (k:Int):∀ (f:Nat) (s:Str),(letters k f s).2.length<=s.length:=by
 intro f;induction f with
 |zero=>intro s;exact Au _
 |succ f ih =>
  intro s;by_cases h0:slen k s=0;·rw [aU k f s h0];exact Au _
  ·rw [Jk k f s h0];refine Aj (ih _) ?_;simp
theorem Abk (n:Nat) (h:n<16):isHex (hexDigit n)=true:=by have:∀ k:Fin 16,isHex (hexDigit k.val)=true:=nah;exact this ⟨n,h⟩
theorem Acy (k n:Nat):(iy k n).all isHex=true:=by
 induction k generalizing n with
 |zero=>rfl
 |succ k ih=>simp only [iy,Ju,ih,Nu,Oq,Abk _ (Ls n (dC:0<16)),Bool.and_self]
theorem Pg (l:Q00):aG (sum l)=true:=by
 have h1:=eH l;have h2:(sum l).all isHex=true:=by unfold sum;generalize CX l=n;exact Acy 16 n
 generalize sum l=s at *;unfold aG;rw [h1,h2];rfl
theorem Px (ls:List Q00):aG (dl ls)=true:=Pg _
theorem Aai (n:Nat) (l:Q00) (h:aG l=true):aG (chain n l)=true:=by
 cases n with
 |zero=>exact h
 |succ n=>rw [jQ];exact Pg _
theorem jU (ls:List Q00):aG (root ls)=true:=by
 rcases ls with _|⟨x,_|⟨y,r⟩⟩;·exact Px _
 ·exact Px _
 ·rw [lG _ sM];exact Pg _
theorem Pv (f:Nat):∀ (ls:List Q00) (i:Nat),∀ x∈iL f ls i,aG x=true:=by
 induction f with
 |zero=>intro ls i x hx;simp [iL] at hx
 |succ f ih =>
  intro ls i x hx;unfold iL at hx;split at hx;·simp at hx
  ·split at hx
   ·rcases Az.1 hx with rfl|hx;·exact jU _
    ·exact ih _ _ x hx
   ·rcases Az.1 hx with rfl|hx;·exact jU _
    ·exact ih _ _ x hx
theorem mQ (ls:List Q00) (i:Nat):∀ x∈path ls i,aG x=true:=fun x hx=>Pv _ _ _ x (List.mem_reverse.1 hx)
theorem ou (kq:Q00) (i:Nat) (m:Q00):∀ x∈sig kq i m,aG x=true:=fun x hx=>by obtain⟨y,_,rfl⟩:=Ew.1 hx;exact Aai _ _ (Px _)
theorem Acl (a b:Nat) (l:Q00):chain a (chain b l)=chain (b+a) l:=by
 induction b generalizing l with
 |zero=>rw [Ba];rfl
 |succ b ih=>rw [Nat.add_right_comm];exact ih (sum l)
theorem nC (kq:Q00) (i:Nat) (m:Q00):(sig kq i m).length=18:=by simp [sig,length_digits]
theorem Ac6 (kq:Q00) (i:Nat) (m:Q00):ends (sig kq i m) m=(List.range 18).map fun k=>chain 15 (start kq i k):=by
 apply Jy;intro k;by_cases hk:k<18
 ·have hd:k<(digits m).length:=by rw [length_digits];exact hk
  obtain⟨d,hdk⟩:∃ d,(digits m)[k]?=some d:=⟨_,Ae hd⟩
  have hle:=Aa1 m _ (Bg hdk);have hz:((digits m).zip (sig kq i m))[k]?=some (d,chain d (start kq i k)):=by rw [List.getElem?_zip_eq_some];refine⟨hdk,?_⟩;unfold sig;rw [Es,List.getElem?_zipIdx,hdk,Gz,Gz,Ba]
  unfold ends;rw [Es,hz,Es,Md hk,Gz,Gz];dsimp only;rw [Acl,show d+(15 - d)=15 from by omega]
 ·rw [Gw (by simp [ends,length_digits,nC];omega),Gw naf]
theorem vg (kq:Q00) (i:Nat) (m:Q00):dl (ends (sig kq i m) m)=kW kq i:=by rw [Ac6];rfl
theorem zT (kq:Q00) (h i:Nat) (hi:i<2 ^ h):(keys kq h)[i]?=some (kW kq i):=by unfold keys;rw [Es,Md hi];rfl
theorem Z9 (l:List Q00) (d:Q00) (b:Bool) (hd:d.length=16):gW (l++[d],b)=(d,(l,b)):=by
 unfold gW;rw [List.getLast?_concat];dsimp only;rw [List.dropLast_concat];have:d.isEmpty=false:=by cases d with|nil=>simp at hd|cons=>rfl
 rw [this,Bool.or_false]
theorem Aco (f:Nat):∀ (g:Nat) (ls:List Q00) (i:Nat) (leaf:Q00) (pre:List Q00) (b:Bool),ls.length<=f->ls.length<=g->ls[i]?=some leaf -> upF leaf f ls.length i (pre++(iL g ls i).reverse,b)=(root ls,(pre,b)):=by
 induction f with
 |zero =>intro g ls i leaf pre b hf _ hi;have:ls=[]:=Et.1 oM;subst this;simp at hi
 |succ f ih =>
  intro g ls i leaf pre b hf hg hi;have hil:i<ls.length:=(lS hi)
  by_cases h1:ls.length=1
  ·match ls,h1 with
   |[x],_ =>
    obtain rfl:i=0:=by simpa using hil
    obtain rfl:x=leaf:=by simpa using hi
    rw [pG _ _ _ sM];simp only [List.reverse_nil,Fj];rfl
  ·have h2:2<=ls.length:=oM;obtain⟨g,rfl⟩:∃ g',g=g'+1:=⟨g - 1,oM⟩
   have hp:=jI ls.length;have hh:=jP ls.length h2;have ht:(ls.take (half ls.length)).length=half ls.length:=by rw [C9];omega
   have hd:(ls.drop (half ls.length)).length=ls.length - half ls.length:=by rw [Cc]
   rw [upF,Ai h1];by_cases hlt:i<half ls.length;·rw [Ah hlt,ni _ _ _ h2 hlt,List.reverse_cons,<- Dk,Z9 _ _ _ (jO _)];dsimp only;have:=ih g (ls.take (half ls.length)) i leaf pre b oM oM (by rw [Iq hlt];exact hi);rw [ht] at this;rw [this,lG ls h2]
   ·rw [Ai hlt,lH _ _ _ h2 hlt,List.reverse_cons,<- Dk,Z9 _ _ _ (jO _)];dsimp only;have:=ih g (ls.drop (half ls.length)) (i - half ls.length) leaf pre b oM oM (by rw [Ht,show half ls.length+(i - half ls.length)=i from by omega];exact hi);rw [hd] at this;rw [this,lG ls h2]
theorem qH (ls:List Q00) (i:Nat) (leaf:Q00) (hi:ls[i]?=some leaf):dS (root ls) ls.length i leaf (path ls i)=true:=by
 have h:=Aco ls.length ls.length ls i leaf [] false nR nR hi;rw [Eu] at h;unfold dS path;rw [h];have:(iL ls.length ls i).reverse.all aG=true:=by rw [Dj];exact fun x hx=>Pv _ _ _ x (List.mem_reverse.1 hx)
 rw [this];simp
theorem Aay (h:Nat):∀ (d j f:Nat),j+d=h->d<=f->kX f (2 ^ (h+1)) (2 ^ j)=2 ^ h
 |0,j,f,hj,_=>by
  obtain rfl:j=h:=oM
  rw [qV]
  rw [Jh];omega
 |d+1,j,f,hj,hf=>by
  obtain⟨f,rfl⟩:∃ f',f=f'+1:=⟨f - 1,oM⟩
  have hlt:2 ^ (j+1)<2 ^ (h+1):=Nat.pow_lt_pow_right dC oM
  have e:2*2 ^ j=2 ^ (j+1):=by rw [Jh];omega
  rw [kX,e,Ah hlt]
  exact Aay h d (j+1) f oM oM
theorem Acz (h:Nat):half (2 ^ (h+1))=2 ^ h:=by have hlt:h<2 ^ h:=Nat.lt_two_pow_self;have:2 ^ h<=2 ^ (h+1):=J4 dC oM;exact Aay h h 0 (2 ^ (h+1)) oM oM
theorem Aa4 (h:Nat):∀ (g:Nat) (ls:List Q00) (i:Nat),ls.length=2 ^ h->ls.length<=g->(iL g ls i).length=h:=by
 induction h with
 |zero=>intro g ls i hl _;rw [pG _ _ _ (by rw [hl];exact Au _)];rfl
 |succ h ih =>
  intro g ls i hl hg;have hpos:1<=2 ^ h:=Nat.one_le_two_pow;have hs:2 ^ (h+1)=2 ^ h+2 ^ h:=by rw [Jh];omega
  obtain⟨g,rfl⟩:∃ g',g=g'+1:=⟨g - 1,oM⟩
  have xE:half ls.length=2 ^ h:=by rw [hl];exact Acz h
  by_cases hlt:i<half ls.length;·rw [ni _ _ _ oM hlt,Ap,ih g _ _ (by rw [C9,xE];omega) (by rw [C9,xE];omega)]
  ·rw [lH _ _ _ oM hlt,Ap,ih g _ _ (by rw [Cc,xE];omega) (by rw [Cc,xE];omega)]
theorem qw (kq:Q00) (h i:Nat):(path (keys kq h) i).length=h:=by unfold path;rw [List.length_reverse];exact Aa4 h _ _ _ (length_keys _ _) nR
end
end CH
namespace Go.Proofs.Y
section
open Go.Lib Go.Proofs.Tryz Go.RowKit Go.Shelf CH
attribute [local go_sem] I5
def MQ (k:Int) (s:Q00) (pre:List Q00) (x:Q00):Prop := (CH.letters k pre.length s).1=pre/\CH.slen k (CH.letters k pre.length s).2≠0/\x=(CH.letters k pre.length s).2.take (CH.slen k (CH.letters k pre.length s).2)
def RZ (k:Int) (s:Q00) (xs:List Q00):Prop:=(CH.letters k xs.length s).1=xs/\CH.slen k (CH.letters k xs.length s).2=0
def MV (n₀ p q:Nat) (A B:ZB):Prop:=Below n₀ A B/\B.heap[p]?=A.heap[p]?/\B.heap[q]?=A.heap[q]?
theorem Xz (k:Int) (s:Q00) (hs:s.length<=1000000) (n:Nat) (hn:1<=n) (n₀ p q:Nat) (wE w:ZB) (hG:Gc wE) (hE:wE.heap.size=n₀) (hbE:Below n₀ wE w) (hp0:n₀<=p) (hq0:n₀<=q) (hpq:p≠q) (hp:w.heap[p]?=some (.cells #[↑s] 9 (0,0))) (hq:w.heap[q]?=some (.cells #[↑k] 3 (0,0))) : MP p Fence.wide n prog 257 #[.pointer (some ⟨q,0,none⟩),.pointer (some ⟨p,0,none⟩)] (fun x:Q00=>#[↑x]) (MV n₀ p q) (RZ k s) (fun _=>True) (MQ k s) w:=fun l J Jx W hW hJ hJx hJp hY h0=>by
 have hpl:p<w.heap.size:=(aZ hp)
 have hql:q<w.heap.size:=(aZ hq)
 have pW:=(hW.block p hpl).trans hp;have qW:=(hW.block q hql).trans hq;have bW:Below n₀ wE W:=hbE.trans (hW.mono (by have:=hbE.size;omega));have LEN:=Aa fun (A:ZB) (r:Q00) (hr:r.length<=1000000) (hb:Below n₀ wE A)=>I06 k r A (hG.below (by rw [hE];exact hb)) hr;have HY:=Aa hY;clear hY;refine Ns func257 rfl trivial ?_ rfl;simp only [ntmps257,Gu,Ap,Bf,Nat.reduceAdd,Nat.reduceSub,Gt,Gs,Hl,Gy,Eu,D6];have c1:W.cell? ⟨q,0,none⟩=some ↑k:=Ab qW 0;have c2:W.cell? ⟨p,0,none⟩=some ↑s:=Ab pW 0;gi_wp2_with fail;refine⟨trivial,?_⟩;refine (Iz.2 (LEN.out W s hs bW)).mono ?_;rintro e W1 ⟨rfl,hb1⟩;have hJ1:J [] W1:=hJ [] W W1 none h0 (Mx hb1) (fun r e=>by cases e);have p1:=(hb1.block p (aZ pW)).trans pW;have q1:=(hb1.block q (aZ qW)).trans qW;have b1:Below n₀ wE W1:=bW.trans (hb1.mono (by have:=bW.size;omega));clear c1 c2;gi_wp2_with fail;gi_loopw [4] (fun nv wr=>∃ (m:Nat) (pre:List Q00) (r:Q00),Hid (pre=(CH.letters k m s).1/\pre.length=m/\r=(CH.letters k m s).2)/\r.length<=1000000/\nv=.int .i64 (CH.slen k r:Nat)/\J pre wr /\ wr.heap[p]?=some (.cells #[↑r] 9 (0,0))/\wr.heap[q]?=some (.cells #[↑k] 3 (0,0))/\Below n₀ wE wr) (fun _ wr=>match wr.cell? ⟨p,0,none⟩ with|some (.string b)=>b.size|_=>0);case atStart=>exact⟨0,[],s,Aa ⟨rfl,rfl,rfl⟩,hs,rfl,hJ1,p1,q1,b1⟩
 case round =>
  obtain⟨m,pre,r,hm,hrl,rfl,hJr,pr,qr,br⟩:=hrel;have c1:wr.cell? ⟨q,0,none⟩=some ↑k:=Ab qr 0;have c2:wr.cell? ⟨p,0,none⟩=some ↑r:=Ab pr 0;have hsl:=nO k r;obtain⟨j,hj⟩:=nac (CH.slen k r);rw [hj.out] at hsl ⊢;by_cases hj0:j=0
  ·have d1:=naj ((0:Int)<(j:Int));gi_wp2;refine⟨fun f e=>(by cases e),?_⟩;gi_wp2;go_end0;refine⟨⟨_,rfl⟩,.inl ⟨pre,⟨?_,?_⟩,hJr⟩⟩;·obtain⟨h1,h2,h3⟩:=hm.out;rw [h2];exact h1.symm
   ·obtain⟨h1,h2,h3⟩:=hm.out;rw [h2,<- h3];exact hj.out.trans hj0
  ·have d1:=nai ((0:Int)<(j:Int));obtain⟨fn,tmps,assign,body,hy,hR⟩:=HY.out pre (r.take j) wr hJr (by
    obtain⟨h1,h2,h3⟩:=hm.out;refine⟨by rw [h2];exact h1.symm,?_,?_⟩;·rw [h2,<- h3,hj.out];exact hj0
    ·rw [h2,<- h3,hj.out])
   have he:(ByteArray.mk r.toArray).extract 0 j=⟨(r.take j).toArray⟩:=by rw [Fu];simp
   gi_wp2_with fail;refine hR.mono ?_;rintro e W3 (⟨rfl,hJ3,hk3,hp3,hq3⟩|⟨rfl,hJx3⟩)
   ·have p3:=hp3.trans pr;have q3:=hq3.trans qr;have b3:Below n₀ wE W3:=br.trans (hk3.mono nR);clear hR hy he hJr c1 c2;have c1:W3.cell? ⟨q,0,none⟩=some ↑k:=Ab q3 0;have c2:W3.cell? ⟨p,0,none⟩=some ↑r:=Ab p3 0;have f2:W3.frozen? ⟨p,0,none⟩=false:=Ao p3 0;have p4:=Al W3 p 0 (.string ⟨(r.drop j).toArray⟩) _ _ _ p3;have q4:=(As W3 ⟨p,0,none⟩ (.string ⟨(r.drop j).toArray⟩) q (fun e=>hpq e.symm)).trans q3;simp only [List.setIfInBounds_toArray,List.set_cons_zero] at p4;have b4:=b3.setCell (p:=⟨p,0,none⟩) hp0 (.string ⟨(r.drop j).toArray⟩);have hJ4:=hJp _ _ (.string ⟨(r.drop j).toArray⟩) hJ3;have he2:(ByteArray.mk r.toArray).extract j r.length=⟨(r.drop j).toArray⟩:=Ex r j;gi_wp2_with fail;generalize hW4:W3.setCell ⟨p,0,none⟩ (.string ⟨(r.drop j).toArray⟩)=W4 at *;have d1:W4.cell? ⟨q,0,none⟩=some ↑k:=Ab q4 0;have d2:W4.cell? ⟨p,0,none⟩=some (.string ⟨(r.drop j).toArray⟩):=Ab p4 0;gi_wp2_with fail;refine⟨trivial,?_⟩;have hdl:(r.drop j).length=r.length - j:=Cc;refine (Iz.2 (LEN.out W4 (r.drop j) oM b4)).mono ?_;rintro e W5 ⟨rfl,hb5⟩;have hJ5:J (pre++[r.take j]) W5:=hJ _ W4 W5 none hJ4 (Mx hb5) (fun r e=>by cases e);have p5:=(hb5.block p (aZ p4)).trans p4;have q5:=(hb5.block q (aZ q4)).trans q4;have b5:Below n₀ wE W5:=b4.trans (hb5.mono (by have:=b4.size;omega));have hnext:Hid (pre++[r.take j]=(CH.letters k (m+1) s).1/\(pre++[r.take j]).length=m+1/\r.drop j=(CH.letters k (m+1) s).2):=Aa (by obtain⟨h1,h2,h3⟩:=hm.out;have hsu:=kK k m s (by rw [<- h1];exact h2) (by rw [<- h3,hj.out];exact hj0);rw [<- h3,hj.out,<- h1] at hsu;rw [hsu];exact⟨rfl,by simp;exact h2,rfl⟩);have d3:W5.cell? ⟨p,0,none⟩=some (.string ⟨(r.drop j).toArray⟩):=Ab p5 0;clear d1 d2 c1 c2 f2 p3 q3 p4 q4 b4 hJ4 hJ3 hm he2;gi_wp2;go_roundw;case rel=>exact⟨m+1,pre++[r.take j],r.drop j,hnext,oM,rfl,hJ5,p5,q5,b5⟩
    case measure =>have c2:wr.cell? ⟨p,0,none⟩=some ↑r:=Ab pr 0;rw [d3,c2];show (r.drop j).toArray.size<r.toArray.size;simp;omega
   ·clear hR hy he hJr;gi_wp2;go_end0;exact⟨⟨_,rfl⟩,.inr ⟨_,trivial,hJx3⟩⟩
end
section
open Go.Lib Go.Proofs.Tryz Go.RowKit CH
variable {Q:Exit->Act->ZB->Prop}
theorem Zu {P:Program} (w:ZB) (t ty e:TypeId) (i:TypeInfo) (ht:P.underlying t=some (.slice e)) (hi:P.info? e=some i) (a:Option Addr) (n cap c:Nat) (hn:n<=cap) : (Builtin.append_ #[t,t] ty #[.slice a n cap,.slice none 0 c]).run P w=.ok (.slice a n cap) w:=by
 cases a with
 |none=>simp [Builtin.append_,Dv ht,sizeOf,typeInfo,hi,Builtin.lenOf,Builtin.firstCells,hn,Result.andThen]
 |some a=>simp [Builtin.append_,Dv ht,sizeOf,typeInfo,hi,Builtin.lenOf,Builtin.firstCells,hn,Result.andThen,storeCells]
def I31 (w:ZB) (vx:ZC) (m:Nat) (news:List ZC):Prop := (∃ ad c,vx=.slice (some ad) m c/\∀ j u,news[j]?=some u->w.cell? (ad.add j)=some u)\/(∃ c,vx=.slice none 0 c/\m=0/\news=[])
theorem L0 {P:Program} (w:ZB) {ops:Array Oper} {rest:List Oper} {o:Oper} {a:Act} (hgd:o.guard=none) (s x:Operand) (t:TypeId) (ho:o.op=.call { callee:=.builtin .append,args:=#[s,x],argTypes:=#[t,t] }) (base:Nat) (e:TypeId) (i:TypeInfo) (z:ZC) (size bytes:Nat) (ht:P.underlying t=some (.slice e)) (hi:P.info? e=some i) (hz:i.zero=some z) (hsize:i.size=size) (hby:i.bytes=bytes) (hzs:z.cells.size=size) (hsz:0<size) (v:ZC) (n:Nat) (xs:List ZC) (hs:a.eval s=v) (hown:w.ownsRow base e size v n xs) (vx:ZC) (m:Nat) (news:List ZC) (hx:a.eval x=vx) (hsrc:I31 w vx m news) (hl:news.length=m*size) (h1:∀ u∈news,u.oneCell'=true) (h63:n+m<=maxLen) (hbytes:(n+m)*bytes<=140737488355328) (hbase:base<=w.heap.size) (h:∀ v' w',w'.ownsRow base e size v' (n+m) (xs++news)->w.grownBy w' v.ownBlock->(v'.ownBlock=v.ownBlock\/v'.ownBlock=some w.heap.size)->wpList P ops Q rest (a.put o.dst v') w') : wpList P ops Q (o::rest) a w:=by
 rcases hsrc with⟨ad,c,rfl,hnews⟩|⟨c,rfl,rfl,rfl⟩;·exact wpList_append_own_at w hgd s x t ho base e i z size bytes ht hi hz hsize hby hzs hsz v n xs hs hown ad m c news hx hl hnews h1 h63 hbytes hbase (fun v' w' a1 a2 _ a4=>h v' w' a1 a2 a4)
 ·refine wpList_plain hgd fun K hK=>?_;obtain⟨av,cv,rfl,hcv⟩:∃ av cv,v=.slice av n cv/\n<=cv:=by
   obtain⟨hlen,⟨rfl,h0⟩|⟨g,cap,cur,rfl,hb,hg,hn,hc,hsz',htk⟩⟩:=hown;·exact⟨none,0,by rw [h0],oM⟩
   ·exact⟨_,cap,rfl,hn⟩
  have hr:=Zu (P:=P) w t o.type e i ht hi av n cv c hcv;unfold Oper.wp execOp;simp only [ho,resolve,invoke,builtin,I9,Lh,Io,List.map_toArray,Gg,Ja,hs,hx,hr];exact hK _ _ (h _ _ (by simpa using hown) (World.grownBy.refl _ _) (.inl rfl))
theorem Strs.source {B:Nat} {w:ZB} {v:ZC} {ls:List Q00} (h:Strs B w v ls):I31 w v ls.length (ls.map ay):=by
 obtain⟨a,cap,rfl,h1,h2,h3⟩:=h;cases a with
 |none =>
  have:ls=[]:=by apply Ik;intro hne;obtain⟨b,off,e,_⟩:=h3 hne;cases e
  subst this;exact .inr ⟨cap,rfl,rfl,rfl⟩
 |some ad =>
  refine .inl ⟨ad,cap,rfl,fun j u hj=>?_⟩;have hne:ls≠[]:=fun e=>by rw [e] at hj;simp at hj
  obtain⟨b,off,e,_,hc⟩:=h3 hne;cases e;rw [Es] at hj;cases hl:ls[j]? with
  |none=>rw [hl] at hj;cases hj
  |some l =>rw [hl] at hj;cases hj;have:=hc j l hl;rw [show (⟨b,off,none⟩:Addr).add j=⟨b,off+j,none⟩ from by simp [Addr.add]];exact this
theorem R6 {w:ZB} {ops:Array Oper} {rest:List Oper} {o:Oper} {a:Act} (hgd:o.guard=none) (s x:Operand) (ho:o.op=.call { callee:=.builtin .append,args:=#[s,x],argTypes:=#[23,23] }) (base:Nat) (v:ZC) (ls:List Q00) (hs:a.eval s=v) (hown:Av base w v ls) (B:Nat) (vx:ZC) (lx:List Q00) (hx:a.eval x=vx) (hX:Strs B w vx lx) (hlen:ls.length+lx.length<=1099511627776) (hbase:base<=w.heap.size) (h:∀ v' w',Av base w' v' (ls++lx)->w.grownBy w' v.ownBlock->(v'.ownBlock=v.ownBlock\/v'.ownBlock=some w.heap.size)->wpList prog ops Q rest (a.put o.dst v') w') : wpList prog ops Q (o::rest) a w:=by
 obtain⟨i,hi,hz0,hz1,hz2⟩:=Jb Ur;refine L0 w hgd s x 23 ho base 9 i _ 1 16 underlying23 hi hz0 hz1 hz2 rfl dC v ls.length _ hs hown vx lx.length (lx.map ay) hx hX.source sM ?_ ?_ ?_ hbase ?_;·intro u hu;obtain⟨l,_,rfl⟩:=Ew.1 hu;rfl
 ·unfold maxLen;omega
 ·omega
 ·intro v' w' h1 h2 h4;exact h v' w' (by unfold Av;simpa using h1) h2 h4
end
end Go.Proofs.Y

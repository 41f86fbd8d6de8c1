/- ChainMatch, part 5 of 26. -/
import Derived.Test.YtajmjabodcmonaaGreatDoorP02
import Derived.RangeFuncNested
import Derived.RangeFuncBound
import Derived.Shelf.RegionOpen
import Derived.OwnWalkIn
import Derived.LoopNIn
import Derived.LoopIn
import Derived.Deep.RegionHeld3
set_option linter.all false
set_option maxHeartbeats 40000000
set_option maxRecDepth 100000
open Go renaming undef -> ZA, World -> ZB, Value -> ZC, Calls -> ZE
open Go.RowKit renaming intOf -> ZG
open Decidable renaming decide -> ZH
open Go.Lib renaming itoa -> ZK
namespace Go.Proofs.Y
section
open Go.Lib Go.Proofs.Tryz Go.RowKit CH
theorem G4 (s:Q00):s.isEmpty=!(s != []):=by cases s <;> rfl
mutual
def Ay (B:Nat) (w:ZB):CH.Formula->ZC->Prop
 |.mk _ _ _ _ kids,v=>∃ a cap,v=.slice a kids.length cap/\kids.length<=cap/\cap<=9223372036854775807/\(kids≠[]->∃ b off,a=some ⟨b,off,none⟩/\b<B/\dw B w kids b off)
def dw (B:Nat) (w:ZB):List CH.Formula->Nat->Nat->Prop
 |[],_,_=>True
 |f::l,b,off=>(∃ vk,w.cell? ⟨b,off,none⟩=some ↑f.op/\w.cell? ⟨b,off+1,none⟩=some ↑f.name/\w.cell? ⟨b,off+2,none⟩=some ↑f.cmp/\w.cell? ⟨b,off+3,none⟩=some ↑f.n/\w.cell? ⟨b,off+4,none⟩=some vk/\Ay B w f vk)/\dw B w l b (off+5)
end
mutual
theorem Ay.below {B B':Nat} {w w':ZB} (hb:Below B' w w') (hB:B<=B'):∀ (f:CH.Formula) (v:ZC),Ay B w f v->Ay B w' f v
 |.mk _ _ _ _ kids,v,h=>by
  unfold Ay at h ⊢
  obtain⟨a,cap,h1,h2,h3,h4⟩:=h
  refine⟨a,cap,h1,h2,h3,fun hne=>?_⟩
  obtain⟨b,off,e,hlt,hr⟩:=h4 hne
  exact⟨b,off,e,hlt,dw.below hb hB kids b off hlt hr⟩
theorem dw.below {B B':Nat} {w w':ZB} (hb:Below B' w w') (hB:B<=B'):∀ (l:List CH.Formula) (b off:Nat),b<B->dw B w l b off->dw B w' l b off
 |[],_,_,_,_=>by unfold dw;trivial
 |f::l,b,off,hlt,h=>by
  unfold dw at h ⊢
  obtain⟨⟨vk,c0,c1,c2,c3,c4,hk⟩,hr⟩:=h
  have hc:=fun o=>hb.cell (p:=⟨b,o,none⟩) (Ae hlt hB)
  exact⟨⟨vk,(hc _).trans c0,(hc _).trans c1,(hc _).trans c2,(hc _).trans c3,(hc _).trans c4,Ay.below hb hB f vk hk⟩,dw.below hb hB l b (off+5) hlt hr⟩
end
mutual
theorem Ay.mono {B B':Nat} {w:ZB} (hB:B<=B'):∀ (f:CH.Formula) (v:ZC),Ay B w f v->Ay B' w f v
 |.mk _ _ _ _ kids,v,h=>by
  unfold Ay at h ⊢
  obtain⟨a,cap,h1,h2,h3,h4⟩:=h
  refine⟨a,cap,h1,h2,h3,fun hne=>?_⟩
  obtain⟨b,off,e,hlt,hr⟩:=h4 hne
  exact⟨b,off,e,Ae hlt hB,dw.mono hB kids b off hr⟩
theorem dw.mono {B B':Nat} {w:ZB} (hB:B<=B'):∀ (l:List CH.Formula) (b off:Nat),dw B w l b off->dw B' w l b off
 |[],_,_,_=>by unfold dw;trivial
 |f::l,b,off,h=>by
  unfold dw at h ⊢
  obtain⟨⟨vk,c0,c1,c2,c3,c4,hk⟩,hr⟩:=h
  exact⟨⟨vk,c0,c1,c2,c3,c4,Ay.mono hB f vk hk⟩,dw.mono hB l b (off+5) hr⟩
end
theorem Ay.form {B:Nat} {w:ZB} {f:CH.Formula} {v:ZC} (h:Ay B w f v):∃ a cap,v=.slice a f.kids.length cap/\f.kids.length<=cap/\cap<=9223372036854775807/\(f.kids≠[]->∃ b off,a=some ⟨b,off,none⟩/\b<B/\dw B w f.kids b off):=by
 cases f with
 |mk op name cmp n kids=>unfold Ay at h;exact h
theorem dw.get {B:Nat} {w:ZB}:∀ (l:List CH.Formula) (b off j:Nat) (f:CH.Formula),dw B w l b off->l[j]?=some f ->
  ∃ vk,w.cell? ⟨b,off+j*5,none⟩=some ↑f.op/\w.cell? ⟨b,off+j*5+1,none⟩=some ↑f.name/\w.cell? ⟨b,off+j*5+2,none⟩=some ↑f.cmp/\w.cell? ⟨b,off+j*5+3,none⟩=some ↑f.n/\w.cell? ⟨b,off+j*5+4,none⟩=some vk/\Ay B w f vk
 |[],_,_,_,_,_,h=>by simp at h
 |g::l,b,off,0,f,h,hj=>by
  unfold dw at h
  simp only [Fv,Fe] at hj
  subst hj
  simpa using h.1
 |g::l,b,off,j+1,f,h,hj=>by
  unfold dw at h
  simp only [Fz] at hj
  have:=dw.get l b (off+5) j f h.2 hj
  rw [show off+(j+1)*5=off+5+j*5 from by omega]
  exact this
def Ao (f:CH.Formula) (vk:ZC):Array ZC:=#[↑f.op,↑f.name,↑f.cmp,↑f.n,vk]
theorem L3b (f:CH.Formula):1<=f.count:=by cases f with|mk _ _ _ _ kids=>unfold CH.Formula.count;omega
theorem Hh (l m:List CH.Formula):aK (l++m)=aK l+aK m:=by
 induction l with
 |nil=>simp [aK]
 |cons f l ih=>simp [aK,ih];omega
theorem Ms (l m:List CH.Formula):aX (l++m)=max (aX l) (aX m):=by
 induction l with
 |nil=>simp [aX]
 |cons f l ih=>simp [aX,ih]
theorem K6 {l:List CH.Formula} {f:CH.Formula} (h:f∈l):f.depth<=aX l:=by
 induction l with
 |nil=>cases h
 |cons g l ih =>
  simp only [aX];rcases Bl.1 h with rfl|h;·omega
  ·have:=ih h;omega
theorem Rp {l:List CH.Formula} {f:CH.Formula} (h:f∈l):f.count<=aK l:=by
 induction l with
 |nil=>cases h
 |cons g l ih =>
  simp only [aK];rcases Bl.1 h with rfl|h;·omega
  ·have:=ih h;omega
theorem Uq (f:CH.Formula):f.count=1+aK f.kids:=by cases f with|mk _ _ _ _ kids=>rfl
theorem Ex (f:CH.Formula):f.depth=1+aX f.kids:=by cases f with|mk _ _ _ _ kids=>rfl
theorem Ipw (f:CH.Formula):f.ok=(fM f.op f.name f.cmp f.n f.kids.length&&!(f.op==3&&(ZH (f.n<0)||ZH (f.n > 1000000)||CH.isKey f.name))&&eP f.kids):=by cases f with|mk _ _ _ _ kids=>rfl
theorem K1 (l:List CH.Formula):l.length<=aK l:=by
 induction l with
 |nil=>simp
 |cons f l ih=>have:=L3b f;simp only [aK,A8];omega
end
section
open CH
def bU:Option Q00->ZC
 |some t=>.tuple #[↑t,.int .i64 0]
 |none=>.tuple #[.string ⟨#[]⟩,.int .i64 1]
theorem bytes_append (a b:Q00):(⟨a.toArray⟩:ByteArray)++⟨b.toArray⟩=⟨(a++b).toArray⟩:=by apply ByteArray.ext;simp
end
section
open Go.Lib Go.Proofs.Tryz Go.RowKit Go.Shelf Go.Sort CH
structure Gc (w:ZB):Prop where
 gl:Gl w
 tX:Lib.CaseVar 8 Lib.caseA w
theorem Gc.below {w w':ZB} (h:Gc w) (hb:Below w w w'):Gc w':=⟨h.gl.below hb,Lib.CaseVar_below h.tX hb⟩
theorem C13 (c:UInt8):∀ l:Q00,ZH (0<=Lib.indexByte l c)=l.contains c:=by
 intro l;rw [So];cases hf:l.findIdx? (·==c) with
 |none =>
  have:=List.findIdx?_eq_none_iff.1 hf;have hn:l.contains c=false:=by
   rw [Bool.eq_false_iff];intro hc;have hm:c∈l:=by simpa using hc
   have:=this c hm;simp at this
  rw [hn];rfl
 |some n =>
  obtain⟨h1,h2,_⟩:=Gj.1 hf;have:l.contains c=true:=by
   have e:l[n]=c:=by simpa using h2
   have:=Jm h1;rw [e] at this;exact FD159
  rw [this];simp
theorem Qv (s set:Q00) (i:Nat) (w:ZB) (hs:s.length<=1000000) (hi:i<=10) : ZE prog 336 #[↑s,↑i,↑set] w (fun e w'=>e=.returned (.bool (CH.isIn s i set))/\w'=w):=by
 by_cases hlt:i<s.length
 ·obtain⟨ch,hch⟩:∃ ch,s[i]?=some ch:=⟨_,Ad hlt⟩
  have hgk:=Hj s i hlt ch hch;have hv:CH.isIn s i set=set.contains ch:=by unfold CH.isIn;rw [hch]
  have C:=Tryz.strings_IndexByte ⟨set.toArray⟩ (ch.toNat:Int) w;have e1:(ByteArray.mk set.toArray).data.toList=set:=rfl;have e2:((ch.toNat:Int)).toNat.toUInt8=ch:=sM;rw [e1,e2] at C;have hge:=C13 ch set;rw [hv,<- hge];have C:=Aa C;clear hv hge hch e1 e2;generalize Lib.indexByte set ch=z at *;go_enter func336,ntmps336;go_wp2_with fail;refine CmZ C.out fun w1 hw1=>?_;rw [hw1];clear C hw1 w1;exact FD35
 ·have hv:CH.isIn s i set=false:=by unfold CH.isIn;rw [List.getElem?_eq_none oM]
  have d1:ZH ((i:Int)<(s.length:Int))=false:=by simp;omega
  rw [hv];clear hv;go_enter func336,ntmps336;exact FD35
theorem I03:∀ n:Fin 128,(Lib.toLowerD [UInt8.ofNat (n.val+128)])[0]?=some 239:=by decide +kernel
theorem Lgt:∀ n:Fin 128,CH.isIn (Lib.toLowerA [UInt8.ofNat n.val]) 0 CH.smalls=eU [UInt8.ofNat n.val]:=by decide +kernel
theorem Lex (b:UInt8):CH.isIn (Lib.toLowerD [b]) 0 CH.smalls=eU [b]:=by
 by_cases hb:b.toNat<128;·rw [Lib.toLowerD_ascii _ (by intro x hx;simp at hx;subst hx;exact hb)];have h:=Lgt ⟨b.toNat,hb⟩;simpa using h
 ·have h:=I03 ⟨b.toNat - 128,by have:=Fb b;omega⟩;have e:UInt8.ofNat ((b.toNat - 128)+128)=b:=by rw [show b.toNat - 128+128=b.toNat from by omega];simp
  dsimp only at h;rw [e] at h;have h1:CH.isIn (Lib.toLowerD [b]) 0 CH.smalls=false:=by unfold CH.isIn;rw [h];rfl
  rw [h1];have h2:∀ n:Fin 128,eU [UInt8.ofNat (n.val+128)]=false:=by decide +kernel
  have h3:=h2 ⟨b.toNat - 128,by have:=Fb b;omega⟩;dsimp only at h3;rw [e] at h3;exact h3.symm
theorem I02 (s:Q00):CH.isIn (Lib.toLowerD (s.take 1)) 0 CH.smalls=eU s:=by
 cases s with
 |nil=>decide +kernel
 |cons b l =>show CH.isIn (Lib.toLowerD [b]) 0 CH.smalls=eU (b::l);rw [Lex];rfl
theorem Lg8 (s:Q00):(Lib.toLowerD (s.take 1)).length<=100:=by
 cases s with
 |nil=>decide +kernel
 |cons b l =>
  show (Lib.toLowerD [b]).length<=100;have h:∀ n:Fin 256,(Lib.toLowerD [UInt8.ofNat n.val]).length<=100:=by decide +kernel
  have:=h ⟨b.toNat,Fb b⟩;exact FD159
theorem I06 (k:Int) (s:Q00) (w:ZB) (hG:Gc w) (hs:s.length<=1000000) : ZE prog 321 #[↑k,↑s] w (Ret w (.int .i64 (CH.slen k s:Nat))):=by
 obtain⟨r,hr⟩:∃ r,Hid (CH.slen k s=r):=⟨_,Aa rfl⟩
 rw [hr.out];have I:=Aa fun (set:Q00) (i:Nat) (hi:i<=10) (w:ZB)=>Qv s set i w hs hi;by_cases k1:k=1
 ·subst k1;cases hb:CH.isIn s 0 CH.smalls with
  |true =>have A:=I.out CH.smalls 0 dC w;exact FD22
  |false =>have A:=I.out CH.smalls 0 dC w;exact FD22
 by_cases k2:k=2
 ·subst k2;have hex:(ByteArray.mk s.toArray).extract 0 (min (1:Int) (s.length:Int)).toNat=⟨(s.take 1).toArray⟩:=by rw [show (min (1:Int) (s.length:Int)).toNat=min 1 s.length from by omega,Fk];simp
  have T:=Aa (Tryz.strings_ToLower_any ⟨(s.take 1).toArray⟩ w (by show (s.take 1).toArray.size<_;simp;omega) hG.tX hG.gl.utf8);have hll:=Lg8 s;have hlt:=I02 s;have J1:=fun w=>Qv (Lib.toLowerD (s.take 1)) CH.smalls 0 w oM dC;rw [hlt] at J1;have J1:=Aa J1;clear hlt hll;go_enter func321,ntmps321;go_wp2_with fail;refine CmZ T.out fun w1 hb1=>?_;clear T;generalize Lib.toLowerD (s.take 1)=LD at *;cases hL:eU s with
  |false =>have A:=J1.out w1;rw [hL] at A;replace A:=Aa A;clear J1;go_wp2_with fail;refine CmZ A.out fun w2 hw2=>?_;rw [hw2];clear A I hw2 w2;go_wp2;go_ret;exact⟨by rw [<- hr.out];simp only [CH.slen,hL];rfl,hb1⟩
  |true =>
   have A:=J1.out w1;rw [hL] at A;replace A:=Aa A;clear J1;go_wp2_with fail;refine CmZ A.out fun w2 hw2=>?_;rw [hw2];clear A hw2 w2;cases hq:CH.isIn s 1 [39,96,94] with
   |true =>exact FD54
   |false =>exact FD54
 by_cases k3:k=3
 ·subst k3;cases hb:CH.isIn s 0 ([98,100,102,103,104,106,107,108,109,110,112,113,114,115,116,119,120,121,122,39]:Q00) with
  |true =>exact FD120
  |false =>exact FD120
 by_cases k4:k=4
 ·subst k4;cases h1:CH.isIn s 0 ([107,115,116,110,104,109,121,114,119,103,122,100,98,112]:Q00) with
  |true =>
   have A:=I.out ([107,115,116,110,104,109,121,114,119,103,122,100,98,112]:Q00) 0 dC w;rw [h1] at A;replace A:=Aa A;go_enter func321,ntmps321;go_wp2_with fail;refine CmZ A.out fun w9 hw9=>?_;rw [hw9];clear A hw9 w9;cases h2:CH.isIn s 1 ([97,105,117,101,111]:Q00) with
   |true =>have A:=I.out ([97,105,117,101,111]:Q00) 1 dC w;rw [h2] at A;replace A:=Aa A;go_wp2_with fail;refine CmZ A.out fun w9 hw9=>?_;rw [hw9];clear A hw9 w9;clear I;go_wp2;go_ret;exact⟨by rw [<- hr.out];simp only [CH.slen,h1,h2];rfl,Ac _ _⟩
   |false =>
    have A:=I.out ([97,105,117,101,111]:Q00) 1 dC w;rw [h2] at A;replace A:=Aa A;go_wp2_with fail;refine CmZ A.out fun w9 hw9=>?_;rw [hw9];clear A hw9 w9;cases h3:CH.isIn s 0 ([97,105,117,101,111]:Q00) with
    |true =>have A:=I.out ([97,105,117,101,111]:Q00) 0 dC w;rw [h3] at A;replace A:=Aa A;go_wp2_with fail;refine CmZ A.out fun w9 hw9=>?_;rw [hw9];clear A hw9 w9;clear I;go_wp2;go_ret;exact⟨by rw [<- hr.out];simp only [CH.slen,h1,h2,h3];rfl,Ac _ _⟩
    |false =>
     have A:=I.out ([97,105,117,101,111]:Q00) 0 dC w;rw [h3] at A;replace A:=Aa A;go_wp2_with fail;refine CmZ A.out fun w9 hw9=>?_;rw [hw9];clear A hw9 w9;cases h4:CH.isIn s 0 [110] with
     |true =>exact FD53
     |false =>exact FD53
  |false =>
   have A:=I.out ([107,115,116,110,104,109,121,114,119,103,122,100,98,112]:Q00) 0 dC w;rw [h1] at A;replace A:=Aa A;go_enter func321,ntmps321;go_wp2_with fail;refine CmZ A.out fun w9 hw9=>?_;rw [hw9];clear A hw9 w9;cases h3:CH.isIn s 0 ([97,105,117,101,111]:Q00) with
   |true =>have A:=I.out ([97,105,117,101,111]:Q00) 0 dC w;rw [h3] at A;replace A:=Aa A;go_wp2_with fail;refine CmZ A.out fun w9 hw9=>?_;rw [hw9];clear A hw9 w9;clear I;go_wp2;go_ret;exact⟨by rw [<- hr.out];simp only [CH.slen,h1,h3];rfl,Ac _ _⟩
   |false =>
    have A:=I.out ([97,105,117,101,111]:Q00) 0 dC w;rw [h3] at A;replace A:=Aa A;go_wp2_with fail;refine CmZ A.out fun w9 hw9=>?_;rw [hw9];clear A hw9 w9;cases h4:CH.isIn s 0 [110] with
    |true =>exact FD55
    |false =>exact FD55
 have d1:(k==1)=false:=by simpa using k1
 have d2:(k==2)=false:=by simpa using k2
 have d3:(k==3)=false:=by simpa using k3
 have d4:(k==4)=false:=by simpa using k4
 clear I;go_enter func321,ntmps321;go_wp2;go_ret;exact⟨by rw [<- hr.out];simp only [CH.slen,k1,k2,k3,k4];rfl,Ac _ _⟩
end
section
open Go.Lib Go.Proofs.Tryz Go.RowKit Go.Sort CH
theorem Isi (v:ZC) (ls:List Q00) (w:ZB) (hG:Gl w) (hv:Strs w w v ls) (hlen:(CH.pack ZK ls).length<=140737488355328) : ZE prog 123 #[v] w (Ret w (.string ⟨(CH.dl ls).toArray⟩)):=by have HC:=Aa (Tu v ls w hG hv hlen);clear hv hlen;go_enter func123,ntmps123;go_wp2_with fail;refine CmZ HC.out fun w1 hb=>?_;exact FD130
theorem Tz (ky:Q00) (i k:Nat) (w:ZB) (hG:Gl w) (hs:ky.length<=1000000) (hi:i<=1000000) (hk:k<=1000000) : ZE prog 90 #[↑ky,↑i,↑k] w (Ret w (.string ⟨(CH.start ky i k).toArray⟩)):=by
 have hl1:=Lib.itoa_length_le (i:Int) oM oM;have hl2:=Lib.itoa_length_le (k:Int) oM oM;go_enter func90,ntmps90;go_wp2_with fail;refine CmZ (G0 _ _ oM oM hG) fun w1 hb1=>?_;have hG1:=hG.below hb1;go_wp2_with fail;refine CmZ (G0 _ _ oM oM hG1) fun w2 hb2=>?_;have hG2:=hG1.below hb2;have hb2':=hb1.trans (hb2.mono hb1.size);go_wp2_with fail;refine (Isi _ [ky,ZK i,ZK k] _ (hG2.below (Cn w2 _)) (by rw [Dt];exact Ra w2 [ky,ZK i,ZK k] 9 sM) ?_).mono ?_;·have:=O2 [ky,ZK i,ZK k] 1000000 (by intro l hl;simp at hl;rcases hl with rfl|rfl|rfl <;> omega) dC;simp at this ⊢;omega
 rintro e w3 ⟨rfl,hb3⟩;go_wp2;go_ret;exact⟨rfl,hb2'.trans (((Cn w2 _).trans (hb3.mono sM)).mono hb2'.size)⟩
theorem Pqu (ky:Q00) (i:Nat) (w:ZB) (hG:Gl w) (hs:ky.length<=1000000) (hi:i<=1000000) : ZE prog 87 #[↑ky,↑i] w (Ret w (.string ⟨(jZ ky i).toArray⟩)):=by
 go_enter func87,ntmps87;go_wp2_with fail;go_loopw [5,7] (fun ov kv wr=>∃ (k:Nat) (out:List Q00),k<=18/\kv=↑k/\At w wr ov out/\out.length=k/\Hid (out=(List.range k).map fun j=>CH.chain 15 (CH.start ky i j))/\Below w w wr) (fun _ kv _=>18 - (ZG kv).toNat);case atStart=>exact⟨0,[],oM,rfl,At.nil _ _,rfl,rfl,Ac _ _⟩
 case round =>
  obtain⟨k,out,hk,rfl,hO,hol,hH,hb⟩:=hrel;have hG':=hG.below hb;have hsz:=hb.size;have HOL:=Aa hol;have JO:out.length<=18:=oM;clear hol;by_cases hlt:k<18
  ·go_wp2_with fail;refine CmZ (Tz ky i k wr hG' hs hi oM) fun w1 hb1=>?_;have hG1:=hG'.below hb1;go_wp2_with fail;refine CmZ (M6 (CH.start ky i k) 15 w1 hG1 dC (by rw [iw];decide)) fun w2 hb2=>?_;have hO2:=((hO.below hb1).below hb2).alloc (.cells #[.string ⟨(CH.chain 15 (CH.start ky i k)).toArray⟩] 9);have hs1:=hb1.size;have hs2:=hb2.size;have hb2':Below w w w2:=(hb.trans (hb1.mono hsz)).trans (hb2.mono oM);have HN:Hid (out++[CH.chain 15 (CH.start ky i k)]=(List.range (k+1)).map fun j=>CH.chain 15 (CH.start ky i j)):=by rw [List.range_succ,Ep,<- hH.out];exact rfl
   clear hH hO hb hb1 hb2 hG' hG1;generalize CH.chain 15 (CH.start ky i k)=c at *;go_wp2_with (at_builtin;refine Cq rfl _ _ rfl w _ out rfl hO2 w2 1 c rfl ?c1 ?c2 ?c3 ?_)
   case c1=>rw [Cj _ _ _ _ rfl];rfl
   case c2=>omega
   case c3=>simp;omega
   intro v' w3 hO3 hg3 _;have hbf:Below w w w3:=(hb2'.alloc oM _).grown hg3 (by simp;omega) (fun j hj=>(Dw hO2 j hj).1);clear hO2 hg3 hb2';go_wp2;go_roundw;case rel=>exact⟨k+1,out++[c],oM,by go_num,hO3,by have:=HOL.out;simp;omega,HN,hbf⟩
   case measure=>simp [ZG];omega
  ·have e:k=18:=oM;have HF:Hid (out=(List.range 18).map fun j=>CH.chain 15 (CH.start ky i j)):=by rw [<- e];exact hH
   have hin:∀ l∈out,l.length<=16:=fun l hl=>by rw [HF.out] at hl;obtain⟨j,_,rfl⟩:=Dz.1 hl;rw [qL _ _ (iw _ _ _)];exact Bg _
   have HIN:=Aa hin;clear e hH hin;go_wp2_with fail;refine CmZ (Isi _ out wr hG' hO.strs (by have:=O2 out 16 HIN.out dC;have:out.length*(16+22)<=18*38:=Dh _ JO;omega)) fun w1 hb1=>?_;go_wp2;go_ret;exact⟨by rw [HF.out];rfl,hb.trans (hb1.mono hsz)⟩
theorem Dd (h:Nat) (hh:h<=8):1<=2 ^ h/\2 ^ h<=256:=by rcases h with _|_|_|_|_|_|_|_|_|h;all_goals first|decide|omega
theorem Mu (h:Nat) (hh:h<=8):wrap64 (2 ^ h)=((2 ^ h:Nat):Int):=by rcases h with _|_|_|_|_|_|_|_|_|h;all_goals first|decide +kernel|omega
theorem Ggk (ky:Q00) (h:Nat) (w:ZB) (hG:Gl w) (hs:ky.length<=1000000) (hh:h<=8) : ZE prog 50 #[↑ky,↑h] w (Pad w (CH.keys ky h)):=by
 have hh0:(0:Int)<=(h:Int):=oM;have hh1:(h:Int)<64:=oM;have hh2:(h:Int)<=8:=oM;go_enter func50,ntmps50;obtain⟨i0,hi,hz0,hz1,hz2⟩:=H8 Qq;go_wp2_with (at_make;refine wpList_make_full _ rfl _ _ 22 rfl w 9 i0 _ 1 underlying22 hi hz0 hz1 .i64 .i64 _ _ (2 ^ h) rfl rfl ?hL ?hC ?b2 ?b3 nR ?_)
 case hL=>exact Mu h hh
 case hC=>exact Mu h hh
 case b2=>rw [hz2];have:=Dd h hh;omega
 case b3=>have:=Dd h hh;unfold maxLen;omega
 intro w1 hown hg1;have hn1:=Dd h hh;have hbase:Below w w w1:=(Ac _ w).grown hg1 nR (fun k e=>by cases e);have hO1:At w w1 (.slice (some ⟨w,0,none⟩) (2 ^ h) (2 ^ h)) (List.replicate (2 ^ h) []):=by
  unfold At;have e:(madeCells #[Value.string ⟨#[]⟩] (2 ^ h)).toList=(List.replicate (2 ^ h) []).map aA:=by rw [toList_madeCells_one];simp
  have h2:(List.replicate (2 ^ h) ([]:Q00)).length=2 ^ h:=sM;rw [h2,<- e];exact hown
 have HK:Hid (CH.keys ky h=(List.range (2 ^ h)).map (jZ ky)):=rfl;clear hown hg1 hi hz0 hz1 hz2;generalize hn:2 ^ h=n at *;clear hn hh0 hh1 hh2;go_wp2_with fail;go_loopw [12] (fun kv wr=>∃ (k:Nat) (ls:List Q00),k<=n/\kv=↑k/\At w wr (.slice (some ⟨w,0,none⟩) n n) ls/\Hid (ls=(List.range k).map (jZ ky)++List.replicate (n - k) [])/\Below w w wr) (fun kv _=>n - (ZG kv).toNat);case atStart=>exact⟨0,_,Az _,rfl,hO1,by exact rfl,hbase⟩
 case round =>
  obtain⟨k,ls,hk,rfl,hO,hH,hb⟩:=hrel;have hG':=hG.below hb;have hsz:=hb.size;by_cases hlt:k<n
  ·go_wp2_with fail;refine CmZ (Pqu ky k wr hG' hs oM) fun w2 hb2=>?_;have hO2:=hO.below hb2;have hb2':Below w w w2:=hb.trans (hb2.mono hsz);have hll:ls.length=n:=by rw [hH.out];simp;omega
   have yg:At w w2 (.slice (some ⟨w,0,none⟩) ls.length n) ls:=by rw [hll];exact hO2
   have hcell:w2.cell? ⟨w,k,none⟩=some (aA (ls.getD k [])):=by rw [Fq yg k oM];have hkl:k<ls.length:=oM;simp [hkl]
   have hfro:w2.frozen? ⟨w,k,none⟩=false:=World.ownsRow.frozenAt yg k;have HLL:=Aa hll;have HO2:=Aa yg;clear hO hb hb2 hG' hll hO2 yg;go_wp2;have hst:=World.ownsRow.stored HO2.out k (aA (jZ ky k));have hset:ls.set k (jZ ky k)=(List.range (k+1)).map (jZ ky)++List.replicate (n - (k+1)) []:=by rw [hH.out,show n - k=(n - (k+1))+1 from by omega,Ky,List.range_succ,Ep];rw [List.set_append_right _ _ sM];simp
   refine⟨⟨k+1,ls.set k (jZ ky k),oM,by go_num,?_,hset,hb2'.setCell nR _⟩,by simp [ZG];omega⟩;unfold At;rw [Nk,List.map_set];have h1:=HLL.out;rw [h1] at hst ⊢;exact hst.1
  ·have e:k=n:=oM;have HF:Hid (ls=CH.keys ky h):=Aa (by rw [HK.out,hH.out,e];simp);clear e hH;go_wp2;go_ret;exact⟨_,rfl,by rw [<- HF.out];exact hO,hb⟩
theorem Inc (ky:Q00) (h:Nat) (w:ZB) (hG:Gl w) (hs:ky.length<=1000000) (hh:h<=8) : ZE prog 21 #[↑ky,↑h] w (Ret w (.tuple #[.string ⟨(CH.pub ky h).toArray⟩,.int .i64 0])):=by
 have d1:ZH ((h:Int)<0)=false:=sM;have d2:ZH ((8:Int)<(h:Int))=false:=by simp;omega
 have hl:=Dd h hh;go_enter func21,ntmps21;go_wp2_with fail;refine (Ggk ky h w hG hs hh).mono ?_;rintro e w1 ⟨v1,rfl,hO1,hb1⟩;go_wp2_with fail;refine CmZ (Xj _ v1 (CH.keys ky h) w1 (Fj _) (hG.below hb1) hO1.strs (by rw [CH.length_keys];omega) (fun l hl=>by unfold CH.keys at hl;obtain⟨j,_,rfl⟩:=Dz.1 hl;rw [mX];decide)) fun w2 hb2=>?_;go_wp2;go_ret2;exact⟨rfl,hb1.trans (hb2.mono hb1.size)⟩
end
section
open Go.Lib Go.Proofs.Tryz Go.RowKit Go.Shelf CH
variable {w:ZB} {P:Program} {a:Act} {K:Act->ZB->Prop} {Q:Exit->Act->ZB->Prop} {ops:Array Oper} {ls:List Q00}
attribute [local go_sem] Jt
abbrev DP:=Fin 18 × Fin 16
abbrev yL (x:DP):Array ZC:=#[.int .i64 (x.1.val:Nat),.int .i64 (x.2.val:Nat)]
theorem Amp (n:Nat) (h:n<16):Lib.indexByte P0 (CH.hexDigit n)=(n:Int):=by
 have:∀ k:Fin 16,Lib.indexByte P0 (CH.hexDigit k.val)=(k.val:Int):=by decide +kernel
 exact this ⟨n,h⟩
theorem I21 (k n:Nat):∀ c∈gy k n,∃ d,d<16/\c=CH.hexDigit d:=by
 induction k generalizing n with
 |zero=>simp [gy]
 |succ k ih =>
  intro c hc;rcases Dp.1 hc with h|h;·exact ih _ c h
  ·simp at h;exact⟨n % 16,J3 _ dC,h⟩
theorem Mh {w':ZB} (h:Below w w w'):w.grownBy w' none:=⟨h.os,h.tape,h.output,h.size,fun k hk _=>h.block k hk⟩
theorem Sv (m:Q00) (hm:m.length<=140737488355328) (n Bm:Nat) (hn:1<=n) (w:ZB) (hG:Gl w) (hB:Bm<w.heap.size) (hc:w.cell? ⟨Bm,0,none⟩=some ↑m) : SeqStopsK Fence.wide n prog 149 #[.pointer (some ⟨Bm,0,none⟩)] yL KeepsWalks (fun xs=>xs=eX m) (fun _=>True) 18 w:=fun l J Jx W hW hJ hJx hY h0=>by
 have hcW:W.cell? ⟨Bm,0,none⟩=some ↑m:=(hW.cell (p:=⟨Bm,0,none⟩) hB).trans hc;have hGW:=hG.below hW;refine Nw func149 rfl trivial ?_ rfl;simp only [ntmps149,Ip,A8,Bj,Nat.reduceAdd,Nat.reduceSub,Ig,Ie,I7,Il,Dl,Ea];gi_wp2_with fail;refine⟨trivial,?_⟩;refine (Jj.2 (V5 m W hGW hm)).mono ?_;rintro e W1 ⟨rfl,hb1⟩;have hJ1:J [] W1:=hJ [] W W1 none h0 (Mh hb1) (fun r e=>by cases e);have hsl:(CH.sum m).length=16:=dL m;have hdig:∀ k,k<16->∃ d,d<=15/\(CH.sum m)[k]?=some (CH.hexDigit d)/\(iO m)[k]?=some d:=fun k hk=>by have hk':k<(CH.sum m).length:=oM;obtain⟨d,hd,e⟩:=I21 16 (yS m) (CH.sum m)[k] (Jm hk');refine⟨d,oM,by rw [Ad hk',e],?_⟩;unfold iO;rw [Dq,Ad hk',e];simp [nI d hd]
 have yD:∀ k d,k<16->(iO m)[k]?=some d->∃ x:DP,(eX m)[k]?=some x/\x.1.val=k/\x.2.val=d:=fun k d hk hd=>by obtain⟨hd',e⟩:=jQ m k d oM (by rw [ji,Eu (by rw [dQ];exact hk)];exact hd);exact⟨_,e,rfl,rfl⟩
 have HD:=Aa hdig;have HP:=Aa yD;have HY:=Aa hY;clear hdig yD hY hcW hc h0 hb1;generalize hS:CH.sum m=S at *;gi_wp2_with fail;gi_loopw [3,11] (fun rv iv wr=>∃ k r:Nat,k<=16/\r<=240/\iv=↑k/\rv=↑r/\Hid (r=CH.lack m k)/\J ((eX m).take k) wr) (fun _ iv _=>16 - (ZG iv).toNat);case atStart=>exact⟨0,0,oM,oM,rfl,rfl,rfl,hJ1⟩
 case round =>
  obtain⟨k,r,hk,hr,rfl,rfl,hH,hJk⟩:=hrel;by_cases hlt:k<16
  ·obtain⟨d,hd,hSd,hdd⟩:=HD.out k hlt;have hkS:k<(ByteArray.mk S.toArray).size:=by show k<S.toArray.size;simp;omega
   have e1:Lib.indexByte (ByteArray.mk #[48,49,50,51,52,53,54,55,56,57,97,98,99,100,101,102]).data.toList (((((ByteArray.mk S.toArray)[k]'hkS).toNat:Int)).toNat.toUInt8)=(d:Int):=by
    have e2:(ByteArray.mk S.toArray)[k]'hkS=CH.hexDigit d:=by
     have h2:k<S.length:=oM;have:S[k]=CH.hexDigit d:=by rw [Ad h2] at hSd;exact Hf hSd
     rw [<- this];rfl
    rw [e2,show ((CH.hexDigit d).toNat:Int).toNat=(CH.hexDigit d).toNat from by omega];rw [show (CH.hexDigit d).toNat.toUInt8=CH.hexDigit d from by simp];exact Amp d oM
   obtain⟨x,hx,hx1,hx2⟩:=HP.out k d hlt hdd;have hpre:(eX m).take (k+1)=(eX m).take k++[x]:=aI _ _ _ hx;obtain⟨fn,tmps,assign,body,hy,hR⟩:=HY.out ((eX m).take k) x wr hJk (by rw [C9,dS];omega);have hl':CH.lack m (k+1)=r+(15 - d):=by rw [qA m k d hdd,<- hH.out]
   have hl2:=qN m (k+1);rw [hl'] at hl2;dsimp only [yL] at hy;rw [hx1,hx2] at hy;have HX:=Aa (And.intro hpre hl');clear hSd hdd hx hx1 hx2 hpre hl' hH;gi_wp2_with fail;refine⟨trivial,?_⟩;refine (Jj.2 (Tryz.strings_IndexByte _ _ wr)).mono ?_;rw [e1];clear e1;rintro e w' ⟨rfl,rfl⟩;gi_wp2_with fail;refine hR.mono ?_;rintro e W3 (⟨rfl,hJ3,_⟩|⟨rfl,hJx3⟩)
   ·obtain⟨hpre,hl'⟩:=HX.out;rw [<- hpre] at hJ3;have HL:=Aa hl';clear hpre hl' HX hJk hR hy;gi_wp2;go_roundw;case rel=>exact⟨k+1,r+(15 - d),oM,oM,by go_num,by go_num,HL.out.symm,hJ3⟩
    case measure=>simp [ZG];omega
   ·clear hJk hR hy HX;gi_wp2;refine Aj (N7 rfl _ _ _) rfl ?_;exact⟨⟨_,rfl⟩,.inr ⟨_,trivial,hJx3⟩⟩
  ·obtain rfl:k=16:=oM;have hr':=hH.out;have d16:(CH.digits m)[16]?=some (r / 16):=by rw [ji,Em (by rw [dQ];exact Bg _),dQ,<- hr'];rfl
   have d17:(CH.digits m)[17]?=some (r % 16):=by rw [ji,Em (by rw [dQ];decide),dQ,<- hr'];rfl
   obtain⟨h16,p16⟩:=jQ m 16 _ dC d16;obtain⟨h17,p17⟩:=jQ m 17 _ dC d17;have t17:=aI _ _ _ p16;have t18:=aI _ _ _ p17;have BQ:(eX m).take (17+1)=eX m:=Bz (by rw [dS];decide);rw [BQ] at t18;have HT:=Aa (And.intro t17 t18);obtain⟨fn,tmps,assign,body,hy,hR⟩:=HY.out ((eX m).take 16) (⟨16,dC⟩,⟨r / 16,h16⟩) wr hJk (by rw [C9,dS];omega);replace hy:(Instr.yield l #[Value.int .i64 16,Value.int .i64 ((r:Int) / 16)]).run prog wr=.ok (.round l fn tmps assign body) wr:=by rw [show ((r:Int) / 16)=((r / 16:Nat):Int) from by omega];exact hy
   clear hr' d16 d17 p16 p17 t17 t18 BQ hH HD HP;gi_wp2_with fail;refine hR.mono ?_;rintro e W3 (⟨rfl,hJ3,_⟩|⟨rfl,hJx3⟩)
   ·obtain⟨t17,t18⟩:=HT.out;rw [<- t17] at hJ3;clear hR hy hJk;obtain⟨fn,tmps,assign,body,hy,hR⟩:=HY.out ((eX m).take 17) (⟨17,dC⟩,⟨r % 16,h17⟩) W3 hJ3 (by rw [C9,dS];omega);replace hy:(Instr.yield l #[Value.int .i64 17,Value.int .i64 ((r:Int) % 16)]).run prog W3=.ok (.round l fn tmps assign body) W3:=by rw [show ((r:Int) % 16)=((r % 16:Nat):Int) from by omega];exact hy
    have H18:=Aa t18;clear t17 t18 HT;gi_wp2_with fail;refine hR.mono ?_;rintro e W4 (⟨rfl,hJ4,_⟩|⟨rfl,AP⟩);·rw [<- H18.out] at hJ4;clear hR hy hJ3;gi_wp2;go_end0;exact⟨⟨_,rfl⟩,.inl ⟨_,rfl,hJ4⟩⟩
    ·clear hR hy hJ3;gi_wp2;go_end0;exact⟨⟨_,rfl⟩,.inr ⟨_,trivial,AP⟩⟩
   ·clear hR hy hJk HT;gi_wp2;go_end0;exact⟨⟨_,rfl⟩,.inr ⟨_,trivial,hJx3⟩⟩
theorem Hrl {row:String} {args:Array ZC} {R:ZC->ZB->Prop} (l n:Nat) (h:Rows P row args w R):RowsIn (Fence.wide.inRound l) n P row args w R:=by intro c cs hroom;obtain⟨v,w',r,s⟩:=h c cs;exact⟨v,w',r,stepsIn_wide.2 s⟩
theorem Mwa {o:Oper} (l n:Nat) (hnd:∀ c,o.op≠.defer c) (h:o.wp P a w K Q):o.wpIn (Fence.wide.inRound l) n P a w K Q:=by
 refine⟨fun _ _=>trivial,?_⟩;rw [show (Fence.wide.inRound l).round=some l from rfl,Jt l a.eval o hnd];unfold Oper.wp at h;generalize (execOp a.eval o).run P w=r at h ⊢;cases r with
 |ok nx w' =>
  cases nx with
  |value v=>exact h
  |skip=>exact h
  |defer d=>exact h
  |enter f args=>exact⟨(fun hd=>by cases hd),CallsIn.inRound l (Jj.2 h)⟩
  |row r args=>exact⟨(fun hd=>by cases hd),Hrl l _ h⟩
  |_=>exact h.elim
 |halt hh w' =>
  cases hh with
  |panic v=>exact h
  |_=>exact h.elim
theorem Bsu {P:Program} {md:Region.Mode} (l n:Nat) (hnd:∀ (j:Nat) (o:Oper),ops[j]?=some o->∀ c,o.op≠.defer c) (hout:¬ LetsOut Q) :
  ∀ (fuel:Nat) (jz:Array Bool) (a:Act) (w:ZB),wpAny P md ops Q fuel jz a w->wpAnyIn (Fence.wide.inRound l) n P md ops Q fuel jz a w
 |0,_,_,_,h=>h
 |fuel+1,jz,a,w,h=>by
  refine⟨h.1,fun i hi=>?_⟩
  have h2:=wpOp_mono (fun a' w' h'=>Bsu l n hnd hout fuel _ a' w' h') (h.2 i hi)
  unfold wpOp at h2
  unfold wpOpIn
  cases ho:ops[i]? with
  |none=>rw [ho] at h2;exact h2
  |some o =>
   rw [ho] at h2
   simp only at h2 ⊢
   split
   ·rename_i hw
    rw [Au hw] at h2
    rcases h2 with h2|⟨_,h2⟩
    ·exact Mwa l n (hnd i o ho) h2
    ·exact (hout h2).elim
   ·rename_i hw
    rw [Ai hw] at h2
    exact⟨fun _ _=>trivial,h2⟩
def V7 (ops:Array Oper):Bool:=ops.all fun o=>match o.op with|.defer _=>false|_=>true
theorem Cnw (h:V7 ops=true) (j:Nat) (o:Oper) (ho:ops[j]?=some o) (c:Call):o.op≠.defer c:=by intro e;unfold V7 at h;rw [Ld] at h;have:=h o (Md ho);rw [e] at this;cases this
theorem Cat {id:Nat} (S:ZB->Prop) (l n:Nat) (hm:P.follows .mixedOrders=true) (hnd:V7 ops=true) (hout:¬ LetsOut Q) (h:wpAnyH P .any ops Q S ops.size (Array.replicate ops.size false) a w.drew):(Code.region id ops true).wpIn (Fence.wide.inRound l) n P Q a w := wpIn_region_any hm (Bsu l n (Cnw hnd) hout _ _ _ _ (wpAny_of_held _ _ _ _ h))
theorem Li {id:Nat} (S:ZB->Prop) (l n:Nat) (hm:P.follows .mixedOrders=true) (hnd:V7 ops=true) (hout:¬ LetsOut Q) (hS:S w.drew) (h:S w.drew->wpAnyH P .any ops Q S ops.size (Array.replicate ops.size false) a w.drew):(Code.region id ops true).wpIn (Fence.wide.inRound l) n P Q a w := Cat S l n hm hnd hout (h hS)
attribute [local go_sem] Jt
theorem Pmj (ky:Q00) (i:Nat) (m:Q00):CH.sig ky i m=(eX m).map fun x=>CH.chain x.2.val (CH.start ky i x.1.val):=by
 apply Jf;intro k;unfold CH.sig;by_cases hk:k<18;·have hl:=CH.length_digits m;have hg:(CH.digits m)[k]?=some ((CH.digits m)[k]'oM):=Ad _;obtain⟨hd,h2⟩:=jQ m k _ hk hg;rw [Dq,Dq,h2,List.getElem?_zipIdx,hg];simp
 ·rw [F8 (by simp [CH.length_digits];omega),F8 (by simp [dS];omega)]
theorem Yw (m:Q00) (w:ZB):ZE prog 88 #[↑m] w fun e w'=>e=.returned (.func (.func 149) #[] #[.pointer (some ⟨w,0,none⟩)])/\w.alloc (.cells #[↑m] 9)=w':=by go_enter func88,ntmps88;exact FD35
def Pwe (w:ZB) (i:Nat) (sig path:List Q00) (e:Ending) (w':ZB):Prop := ∃ v1 v2,e=.returned (.tuple #[.agg #[↑i,v1,v2],.int .i64 0])/\Strs w' w' v1 sig/\Strs w' w' v2 path/\Below w w w'
structure sH (w:ZB) (b:Nat) (ky:Q00) (i:Nat) (pre:List DP) (W:ZB):Prop where
 le:b+5<=W.heap.size
 OM:W.heap[b]?=some (.cells #[↑ky] 9 (0,0))
 bidx:W.heap[b+1]?=some (.cells #[↑i] 3 (0,0))
 res:W.heap[b+2]?=some (.cells #[.int .i64 0,.slice none 0 0,.slice none 0 0] 36 (0,0))
 out:∃ v,W.heap[b+3]?=some (.cells #[↑i,v,.slice none 0 0] 36 (0,0))/\At (b+5) W v (pre.map fun x=>CH.chain x.2.val (CH.start ky i x.1.val))
 below:Below b w W
theorem Jn {w':ZB} {base:Nat} {e:TypeId} {size:Nat} {v:ZC} {n:Nat} {xs:List ZC} {row:Option Nat} (h:w.ownsRow base e size v n xs) (hg:w.grownBy w' row) (hr:∀ r,row=some r->∃ o:Obj,w.heap[r]?=some o/\o.isCells=false):w'.ownsRow base e size v n xs:=by
 have h':=h;obtain⟨hl,⟨rfl,h0⟩|⟨g,cap,cur,rfl,hb,hgb,rest⟩⟩:=h;·exact h'.kept hg (.inl rfl)
 ·refine h'.kept hg (.inr ?_);intro e;obtain⟨o,ho,hc⟩:=hr g e.symm;rw [hgb] at ho;cases ho;cases hc
theorem sH.own (w:ZB) (b:Nat) (ky:Q00) (i:Nat) (B:Nat) (hB:b+5<=B):OwnFrom B (sH w b ky i):=by intro pre W W' row h hg hr;obtain⟨h1,h2,h3,h4,⟨v,h5,h6⟩,h7⟩:=h;have key:∀ k,k<b+5->W'.heap[k]?=W.heap[k]?:=fun k hk=>hg.block k oM (fun e=>by have:=(hr k e.symm).1;omega);have hsz:=hg.size;exact⟨oM,(key b oM).trans h2,(key _ oM).trans h3,(key _ oM).trans h4,⟨v,(key _ oM).trans h5,Jn h6 hg (fun r e=>(hr r e).2)⟩, ⟨hg.os.trans h7.os,hg.tape.trans h7.tape,hg.output.trans h7.output,Af h7.size hsz,fun k hk=>(key k oM).trans (h7.block k hk)⟩⟩
theorem Ka (w:ZB) (p:Addr) (u:ZC):w.grownBy (w.setCell p u) (some p.block) := ⟨rfl,rfl,rfl,by simp [World.setCell],fun k _ hk=>by simp only [World.setCell];rw [Fh,Ai (fun e=>hk (by rw [e]))]⟩
theorem H0 {w':ZB} (h:Below w w w'):KeepsOthers w w':=⟨h.size,fun k o hk _=>by rw [h.block k (aZ hk)];exact hk⟩
theorem At.ownBlock {base:Nat} {v:ZC} (h:At base w v ls):∀ j,v.ownBlock=some j->base<=j/\∃ cs t fr,w.heap[j]?=some (.cells cs t fr):=by
 intro j hj;obtain⟨hlen,⟨rfl,h0⟩|⟨g,cap,cur,rfl,hb,hg,rest⟩⟩:=h;·cases hj
 ·simp only [Value.ownBlock,Fe] at hj;subst hj;exact⟨hb,_,_,_,hg⟩
theorem At.kJ {base:Nat} {v:ZC} (h:At base w v ls) {g:Nat} (hg:g<base) (o:Nat) (u:ZC):At base (w.setCell ⟨g,o,none⟩ u) v ls:=by refine Lc h (Ka w ⟨g,o,none⟩ u) (.inr fun e=>?_);have h9:base<=g:=(h.ownBlock _ e).1;omega
theorem Strs.other {B:Nat} {w':ZB} {v:ZC} (h:Strs B w v ls) {g:Nat} (hg:∀ k s,w.cell? ⟨g,k,none⟩≠some (.string s)) (hw:∀ k,k≠g->w'.heap[k]?=w.heap[k]?):Strs B w' v ls:=by
 obtain⟨a,cap,rfl,h1,h2,h3⟩:=h;refine⟨a,cap,rfl,h1,h2,fun hne=>?_⟩;obtain⟨b,off,ha,hb,hc⟩:=h3 hne;refine⟨b,off,ha,hb,fun j l hj=>?_⟩;have hj':=hc j l hj;by_cases e:b=g;·subst e;exact absurd hj' (hg _ _)
 ·rw [World.cell?_of_block (w:=w) (hw b e)];exact hj'
theorem Bt (w:ZB) (p:Addr) (u:ZC) (k:Nat) (hk:k≠p.block):(w.setCell p u).heap[k]?=w.heap[k]?:=by simp only [World.setCell];rw [Fh,Ai (fun e=>hk e.symm)]
theorem Ca {o:Oper} (s x:Operand) (ho:o.op=.call { callee:=.builtin .append,args:=#[s,x],argTypes:=#[22,22] }) (base:Nat) (v:ZC) (ls:List Q00) (hs:a.eval s=v) (hown:At base w v ls) (g c:Nat) (l:Q00) (hx:a.eval x=.slice (some ⟨g,0,none⟩) 1 c) (hcell:w.cell? ⟨g,0,none⟩=some (aA l)) (hlen:ls.length<=1000000) (hbase:base<=w.heap.size) (h:∀ v' w',At base w' v' (ls++[l])->w.grownBy w' v.ownBlock->K (a.put o.dst v') w'):o.wp prog a w K Q:=by
 obtain⟨i,hi,hz0,hz1,hz2⟩:=H8 Qq;refine wp_append_own w s x 22 ho base 9 i _ 1 16 underlying22 hi hz0 hz1 hz2 rfl dC v ls.length _ hs hown ⟨g,0,none⟩ 1 c [aA l] hx rfl ?_ ?_ ?_ ?_ hbase ?_;·exact FD46
 ·exact FD167
 ·exact FD145
 ·omega
 ·intro v' w' h1 h2 _;exact h v' w' (by unfold At;simpa using h1) h2
theorem N3 (w:ZB) (o1 o2 o3 o4 o5:Obj) (n:Nat) : ((((((w.alloc o1).alloc o2).alloc o3).drewN n).alloc o4).alloc o5).heap[w.heap.size]?=some o1/\((((((w.alloc o1).alloc o2).alloc o3).drewN n).alloc o4).alloc o5).heap[w.heap.size+1]?=some o2 /\ ((((((w.alloc o1).alloc o2).alloc o3).drewN n).alloc o4).alloc o5).heap[w.heap.size+2]?=some o3/\((((((w.alloc o1).alloc o2).alloc o3).drewN n).alloc o4).alloc o5).heap[w.heap.size+3]?=some o4 /\ ((((((w.alloc o1).alloc o2).alloc o3).drewN n).alloc o4).alloc o5).heap[w.heap.size+4]?=some o5:=by
 have e:((((((w.alloc o1).alloc o2).alloc o3).drewN n).alloc o4).alloc o5).heap=((((w.heap.push o1).push o2).push o3).push o4).push o5:=by
  have hd:∀ (u:ZB) (n:Nat),(u.drewN n).heap=u.heap:=fun u n=>by induction n with|zero=>rfl|succ n ih=>exact ih
  simp only [World.alloc,hd]
 rw [e];simp only [Dk,Ef];refine⟨?_,?_,?_,?_,?_⟩;·rw [Ai oM,Ai oM,Ai oM,Ai oM,Au trivial]
 ·rw [Ai oM,Ai oM,Ai oM,Au trivial]
 ·rw [Ai oM,Ai oM,Au trivial]
 ·rw [Ai oM,Au trivial]
 ·rw [Au trivial]
theorem Mpt (ky m:Q00) (h i:Nat) (w:ZB) (hG:Gl w) (hs:ky.length<=1000000) (hm:m.length<=1000000) (hh:h<=8) (hi:i<2 ^ h) : ZE prog 51 #[↑ky,↑h,↑i,↑m] w (Pwe w i (CH.sig ky i m) (CH.path (CH.keys ky h) i)):=by
 have hp:=Dd h hh;have d1:ZH ((h:Int)<0)=false:=sM;have d2:ZH ((8:Int)<(h:Int))=false:=by simp;omega
 have d3:ZH ((i:Int)<0)=false:=sM;have hw64:=Mu h hh;have d4:ZH ((2:Int) ^ h<=(i:Int))=false:=by rw [Dc,show ((2:Int) ^ h)=((2 ^ h:Nat):Int) from by simp];omega
 have hh0:(0:Int)<=(h:Int):=oM;refine (Jj (n:=4)).1 ?_;refine callsIn_of_wp_marks func51 rfl trivial ?_ rfl;simp only [ntmps51,Ip,A8,Bj,Nat.reduceAdd,Nat.reduceSub,Ig,Ie,I7,Il,Dl,Ea];refine Np.2 ?_;go_wp2_with fail;go_quiet (fail);clear d1 d2 d3 d4 hh0;go_wp2_with fail;refine CmZ (Yw m _) fun w1 hw1=>?_;have hI0:sH w w ky i [] w1:=by
  subst hw1;refine⟨sM,?_,?_,?_,⟨_,?_,At.nil _ _⟩,?_⟩;·exact (N3 w _ _ _ _ _ nq).1
  ·exact (N3 w _ _ _ _ _ nq).2.1
  ·exact (N3 w _ _ _ _ _ nq).2.2.1
  ·exact (N3 w _ _ _ _ _ nq).2.2.2.1
  ·refine Fg (Fg (below_drewN (Fg (Fg (Fg (Ac _ w) nR _) sM _) (by simp;omega) _) _) (by simp;omega) _) (by simp;omega) _
 have hcm:w1.cell? ⟨w+1+1+1+1,0,none⟩=some ↑m:=by subst hw1;exact Ab (N3 w _ _ _ _ _ nq).2.2.2.2 0
 have hsz1:w1.heap.size=w.heap.size+1+1+1+1+1:=by subst hw1;simp
 have hG1:Gl w1:=hG.low hI0.below hG.size;clear hw1;go_wp2_with fail;refine (Np (n:=4)).1 ?_;refine wpIn_rangeFunc_ownG (n:=4) (α:=DP) rfl dC (gf:=149) (lb:=#[.pointer (some ⟨w+1+1+1+1,0,none⟩)]) rfl trivial (enters_of func149 kR rfl) (Sv m oM 3 (w.heap.size+1+1+1+1) dC w1 hG1 oM hcm) walksK_t walksK_b (Ac _ _) (fun _=>rfl) (sH w w ky i) (fun _ _ _=>False) (sH.own _ _ _ _ _ oM) (fun _ _ _ _ _ hs _ _=>hs) hI0 (fun x=>{ tmps:=#[↑ky,↑h,↑i,↑m,.pointer (some ⟨w,0,none⟩),ZA,.pointer (some ⟨w+1,0,none⟩),ZA,.pointer (some ⟨w+1+1,0,none⟩),.int .i64 0,.pointer (some ⟨w+1+1+1,0,none⟩),.int .i64 (x.1.val:Nat),.int .i64 (x.2.val:Nat),↑h,.bool false,.bool false,↑h,.bool false,.bool false,.bool false,↑i,.bool false,.bool false,.bool false,↑i,↑h,.int .i64 (2 ^ h),.bool false,.bool false,ZA,↑i,.agg #[↑i,.slice none 0 0,.slice none 0 0],↑m,.func (.func 149) #[] #[.pointer (some ⟨w+1+1+1+1,0,none⟩)],.int .i64 (x.1.val:Nat),.int .i64 (x.2.val:Nat),ZA,ZA,ZA,ZA,ZA,ZA,ZA,ZA,ZA,ZA,ZA,ZA,ZA,ZA,ZA,ZA,ZA,ZA,ZA,ZA,ZA],defers:=[] }) ?assign ?body ?done ?stop;case assign =>intro l x W K hK;gi_wp2;exact hK
 case stop =>rintro D c pre W _ _ hx _;exact hx.elim
 case body =>
  rintro l pre x W hI hlen;have JZ:=x.1.isLt;have KL:=x.2.isLt;have hGW:Gl W:=hG.low hI.below hG.size;obtain⟨hle,hb0,hb1,hbr,⟨v,hb3,hO⟩,hbw⟩:=hI;have hSk:∀ W',Below (w+5) W W'->W'.cell? ⟨w,0,none⟩=some ↑ky/\W'.cell? ⟨w+1,0,none⟩=some ↑i:=fun W' hb =>⟨by rw [hb.cell (p:=⟨w,0,none⟩) sM];simp [World.cell?,hb0],by rw [hb.cell (p:=⟨w+1,0,none⟩) sM];simp [World.cell?,hb1]⟩
  have hV:∀ W',Below (w+5) W W'->W'.cell? ⟨w+1+1+1,1,none⟩=some v:=fun W' hb=>by rw [hb.cell (p:=⟨w+1+1+1,1,none⟩) sM];simp [World.cell?,hb3]
  have hF:∀ W',Below (w+5) W W'->W'.frozen? ⟨w+1+1+1,1,none⟩=false:=fun W' hb=>by rw [hb.frozen (p:=⟨w+1+1+1,1,none⟩) sM];exact Bb hb3 _
  have hB1:Below (w+5) W W.drew:=(Ac _ W).drew;have hG1:Gl W.drew:=hGW.below (Ac _ W).drew;have hO1:At (w+5) W.drew v (pre.map fun x=>CH.chain x.2.val (CH.start ky i x.1.val)):=hO.below (Ac _ W).drew;have hv1:=hV _ hB1;have JU:pre.length<=18:=oM;gi_wp2_with fail;refine Li (fun W'=>W'.cell? ⟨w,0,none⟩=some ↑ky/\W'.cell? ⟨w+1,0,none⟩=some ↑i) _ _ kR kR ?_ (hSk _ hB1) fun kz=>?_;·rintro⟨a,w,h⟩;exact h
  refine tj 0 ?_;push_cast;refine tj 2 ?_;push_cast;refine tj 3 ?_;push_cast;refine tj 4 ?_;push_cast;refine tj 6 ?_;push_cast;refine Ew (rs:=[1,5]) kR sM ?_;refine Cc (o:=_) rfl (fun K hK=>?_) ?_;focus go_simp;refine hK.out _ _ (hSk _ hB1) fun kz=>?_;clear hK K;push_cast;refine rk 5 rfl fun K hK=>?_;go_simp;refine CmZ (Tz ky i x.1.val W.drew hG1 hs oM oM) fun w2 hb2=>?_;have hB2:Below (w+5) W w2:=hB1.trans (hb2.mono hle);have hG2:=hG1.below hb2;have hv2:=hV _ hB2;have hO2:=hO1.below hb2;go_wp2_with fail;refine hK.out _ _ (hSk _ hB2) fun kz=>?_;clear hK K;push_cast;refine rk 7 rfl fun K hK=>?_;go_simp;refine CmZ (M6 (CH.start ky i x.1.val) x.2.val w2 hG2 oM (by rw [iw];omega)) fun w3 fG=>?_;have hB3:Below (w+5) W w3:=hB2.trans (fG.mono (Af hle hB2.size));have hv3:=hV _ hB3;have hv4:∀ o,(w3.alloc o).cell? ⟨w+1+1+1,1,none⟩=some v:=fun o=>hV _ (hB3.alloc (Af hle hB3.size) o);have hO3:=hO2.below fG;go_wp2_with fail;refine hK.out _ _ (hSk _ hB3) fun kz=>?_;clear hK K;push_cast;refine rk 8 rfl fun K hK=>?_;go_simp;refine hK.out _ _ (hSk _ (hB3.alloc (Af hle hB3.size) _)) fun kz=>?_;clear hK K;push_cast;refine rk 9 rfl fun K hK=>?_;rw [Au rF];refine Ca _ _ rfl (w+5) v _ rfl (hO3.alloc _) w3.heap.size _ (CH.chain x.2.val (CH.start ky i x.1.val)) rfl (Cm _ _ _ _ _) (by rw [Bh];omega) (by have:=hB3.size;simp;omega) ?_;intro v5 w5 hO5 hg5;obtain⟨a5,c5,rfl,nH,nG,nD⟩:=hO5.form;have hB5:Below (w+5) W w5:=(hB3.alloc (Af hle hB3.size) _).grown hg5 (by have:=hB3.size;simp;omega) (fun k e=>(hO3.ownBlock k e).1);have hv5:=hV _ hB5;have hf5:=hF _ hB5;refine hK.out _ _ (hSk _ hB5) fun kz=>?_;clear hK K;push_cast;refine tj 10 ?_;push_cast;refine rk 11 rfl fun K hK=>?_;go_simp;refine hK.out _ _ (⟨(D9 _ ⟨w+1+1+1,1,none⟩ ⟨w,0,none⟩ _ (fun e=>by dsimp only at e;omega)).trans (hSk _ hB5).1,(World.cell?_setCell_far _ ⟨w+1+1+1,1,none⟩ ⟨w+1,0,none⟩ _ (fun e=>by dsimp only at e;omega)).trans (hSk _ hB5).2⟩) (fun kz=>?_);clear hK K;push_cast;refine Dy kR ?_ _
  rotate_left 1;refine Cc (o:=_) rfl (fun K hK=>?_) Eo;focus
   go_simp;refine CmZ (Tz ky i x.1.val W.drew hG1 hs oM oM) fun w2 hb2=>?_;have hB2:Below (w+5) W w2:=hB1.trans (hb2.mono hle);have hG2:=hG1.below hb2;have hv2:=hV _ hB2;have hO2:=hO1.below hb2;go_wp2_with fail;refine hK.out _ _ (hSk _ hB2) fun kz=>?_;clear hK K;push_cast;refine Ew (rs:=[1,7]) kR sM ?_;refine Cc (o:=_) rfl (fun K hK=>?_) ?_;focus go_simp;refine hK.out _ _ (hSk _ hB2) fun kz=>?_;clear hK K;push_cast;refine rk 7 rfl fun K hK=>?_;go_simp;refine CmZ (M6 (CH.start ky i x.1.val) x.2.val w2 hG2 oM (by rw [iw];omega)) fun w3 fG=>?_;have hB3:Below (w+5) W w3:=hB2.trans (fG.mono (Af hle hB2.size));have hv3:=hV _ hB3;have hv4:∀ o,(w3.alloc o).cell? ⟨w+1+1+1,1,none⟩=some v:=fun o=>hV _ (hB3.alloc (Af hle hB3.size) o);have hO3:=hO2.below fG;go_wp2_with fail;refine hK.out _ _ (hSk _ hB3) fun kz=>?_;clear hK K;push_cast;refine rk 8 rfl fun K hK=>?_;go_simp;refine hK.out _ _ (hSk _ (hB3.alloc (Af hle hB3.size) _)) fun kz=>?_;clear hK K;push_cast;refine rk 9 rfl fun K hK=>?_;rw [Au rF];refine Ca _ _ rfl (w+5) v _ rfl (hO3.alloc _) w3.heap.size _ (CH.chain x.2.val (CH.start ky i x.1.val)) rfl (Cm _ _ _ _ _) (by rw [Bh];omega) (by have:=hB3.size;simp;omega) ?_;intro v5 w5 hO5 hg5;obtain⟨a5,c5,rfl,nH,nG,nD⟩:=hO5.form;have hB5:Below (w+5) W w5:=(hB3.alloc (Af hle hB3.size) _).grown hg5 (by have:=hB3.size;simp;omega) (fun k e=>(hO3.ownBlock k e).1);have hv5:=hV _ hB5;have hf5:=hF _ hB5;refine hK.out _ _ (hSk _ hB5) fun kz=>?_;clear hK K;push_cast;refine tj 10 ?_;push_cast;refine rk 11 rfl fun K hK=>?_;go_simp;refine hK.out _ _ (⟨(D9 _ ⟨w+1+1+1,1,none⟩ ⟨w,0,none⟩ _ (fun e=>by dsimp only at e;omega)).trans (hSk _ hB5).1,(World.cell?_setCell_far _ ⟨w+1+1+1,1,none⟩ ⟨w+1,0,none⟩ _ (fun e=>by dsimp only at e;omega)).trans (hSk _ hB5).2⟩) (fun kz=>?_);clear hK K;push_cast;refine Dy kR ?_ _
   rotate_left 1;refine Cc (o:=_) rfl (fun K hK=>?_) Eo;focus
    go_simp;refine CmZ (M6 (CH.start ky i x.1.val) x.2.val w2 hG2 oM (by rw [iw];omega)) fun w3 fG=>?_;have hB3:Below (w+5) W w3:=hB2.trans (fG.mono (Af hle hB2.size));have hv3:=hV _ hB3;have hv4:∀ o,(w3.alloc o).cell? ⟨w+1+1+1,1,none⟩=some v:=fun o=>hV _ (hB3.alloc (Af hle hB3.size) o);have hO3:=hO2.below fG;go_wp2_with fail;refine hK.out _ _ (hSk _ hB3) fun kz=>?_;clear hK K;push_cast;refine Ew (rs:=[1,8]) kR sM ?_;refine Cc (o:=_) rfl (fun K hK=>?_) ?_;focus go_simp;refine hK.out _ _ (hSk _ hB3) fun kz=>?_;clear hK K;push_cast;refine rk 8 rfl fun K hK=>?_;go_simp;refine hK.out _ _ (hSk _ (hB3.alloc (Af hle hB3.size) _)) fun kz=>?_;clear hK K;push_cast;refine rk 9 rfl fun K hK=>?_;rw [Au rF];refine Ca _ _ rfl (w+5) v _ rfl (hO3.alloc _) w3.heap.size _ (CH.chain x.2.val (CH.start ky i x.1.val)) rfl (Cm _ _ _ _ _) (by rw [Bh];omega) (by have:=hB3.size;simp;omega) ?_;intro v5 w5 hO5 hg5;obtain⟨a5,c5,rfl,nH,nG,nD⟩:=hO5.form;have hB5:Below (w+5) W w5:=(hB3.alloc (Af hle hB3.size) _).grown hg5 (by have:=hB3.size;simp;omega) (fun k e=>(hO3.ownBlock k e).1);have hv5:=hV _ hB5;have hf5:=hF _ hB5;refine hK.out _ _ (hSk _ hB5) fun kz=>?_;clear hK K;push_cast;refine tj 10 ?_;push_cast;refine rk 11 rfl fun K hK=>?_;go_simp;refine hK.out _ _ (⟨(D9 _ ⟨w+1+1+1,1,none⟩ ⟨w,0,none⟩ _ (fun e=>by dsimp only at e;omega)).trans (hSk _ hB5).1,(World.cell?_setCell_far _ ⟨w+1+1+1,1,none⟩ ⟨w+1,0,none⟩ _ (fun e=>by dsimp only at e;omega)).trans (hSk _ hB5).2⟩) (fun kz=>?_);clear hK K;push_cast;refine Dy kR ?_ _
    rotate_left 1;refine Cc (o:=_) rfl (fun K hK=>?_) Eo;focus go_simp;refine hK.out _ _ (hSk _ (hB3.alloc (Af hle hB3.size) _)) fun kz=>?_;clear hK K;push_cast;refine rk 1 rfl fun K hK=>?_;go_simp;refine hK.out _ _ (hSk _ (hB3.alloc (Af hle hB3.size) _)) fun kz=>?_;clear hK K;push_cast;refine rk 9 rfl fun K hK=>?_;rw [Au rF];refine Ca _ _ rfl (w+5) v _ rfl (hO3.alloc _) w3.heap.size _ (CH.chain x.2.val (CH.start ky i x.1.val)) rfl (Cm _ _ _ _ _) (by rw [Bh];omega) (by have:=hB3.size;simp;omega) ?_;intro v5 w5 hO5 hg5;obtain⟨a5,c5,rfl,nH,nG,nD⟩:=hO5.form;have hB5:Below (w+5) W w5:=(hB3.alloc (Af hle hB3.size) _).grown hg5 (by have:=hB3.size;simp;omega) (fun k e=>(hO3.ownBlock k e).1);have hv5:=hV _ hB5;have hf5:=hF _ hB5;refine hK.out _ _ (hSk _ hB5) fun kz=>?_;clear hK K;push_cast;refine tj 10 ?_;push_cast;refine rk 11 rfl fun K hK=>?_;go_simp;refine hK.out _ _ (⟨(D9 _ ⟨w+1+1+1,1,none⟩ ⟨w,0,none⟩ _ (fun e=>by dsimp only at e;omega)).trans (hSk _ hB5).1,(World.cell?_setCell_far _ ⟨w+1+1+1,1,none⟩ ⟨w+1,0,none⟩ _ (fun e=>by dsimp only at e;omega)).trans (hSk _ hB5).2⟩) (fun kz=>?_);clear hK K;push_cast;refine Dy kR ?_ _
  all_goals
   have hbd:Below W W w3:=((Ac _ W).drew.trans (hb2.mono nR)).trans (fG.mono hb2.size);have hko:∀ u,KeepsOthers W (w5.setCell ⟨w+1+1+1,1,none⟩ u):=fun u =>(((H0 hbd).trans (KeepsOthers.alloc _ _)).trans (KeepsOthers.of_grownBy hg5 (fun j o hj ho=>by obtain⟨_,cs,t,fr,hcs⟩:=(hO3.alloc _).ownBlock j hj;rw [ho] at hcs;cases hcs;rfl))).trans (KeepsOthers.setCell _ _ _);have hk5:∀ k,k<w.heap.size+5->w5.heap[k]?=W.heap[k]?:=fun k hk=>hB5.block k hk;have hks:∀ k u,k≠w.heap.size+1+1+1->(w5.setCell ⟨w+1+1+1,1,none⟩ u).heap[k]?=w5.heap[k]?:=fun k u hk=>by simp only [World.setCell];rw [Fh,Ai (fun e=>hk e.symm)]
   refine⟨(hko _).from _,(hko _).walks,⟨?_,?_,?_,?_,⟨.slice a5 (pre.length+1) c5,?_,?_⟩,?_⟩⟩;·have:=(hko ZA).size;simp at this ⊢;omega
   ·rw [hks _ _ oM,hk5 _ oM];exact hb0
   ·rw [hks _ _ oM,hk5 _ oM];exact hb1
   ·rw [hks _ _ oM,hk5 _ oM];exact hbr
   ·exact A7 w5 (w+3) 1 _ _ _ _ ((hk5 _ oM).trans hb3)
   ·rw [Ep];have h0:=hO5;simp only [At,Ah,Bh,A8,Bj,Bf] at h0 ⊢;exact h0.kept (Ka w5 ⟨w+1+1+1,1,none⟩ _) (by
     rcases a5 with _|p;·exact .inl rfl
     ·refine .inr ?_;intro e;have h9:w.heap.size+5<=w.heap.size+1+1+1:=(hO5.ownBlock _ e).1;omega)
   ·exact⟨hB5.os.trans hbw.os,hB5.tape.trans hbw.tape,hB5.output.trans hbw.output,by have:=hbw.size;have:=(hko ZA).size;simp at this ⊢;omega,fun k hk=>by rw [hks _ _ oM,hk5 _ oM];exact hbw.block k hk⟩
 case done =>
  clear hG1 hcm;intro D xs W hD hxs hI hdef;subst hxs;have hGW:Gl W:=hG.low hI.below hG.size;obtain⟨hle,hb0,hb1,hbr,⟨v,hb3,hO⟩,hbw⟩:=hI;have hSk:∀ W',Below (w+5) W W'->W'.cell? ⟨w,0,none⟩=some ↑ky/\W'.cell? ⟨w+1,0,none⟩=some ↑i:=fun W' hb =>⟨by rw [hb.cell (p:=⟨w,0,none⟩) sM];simp [World.cell?,hb0],by rw [hb.cell (p:=⟨w+1,0,none⟩) sM];simp [World.cell?,hb1]⟩
  have hB1:Below (w+5) W W.drew:=(Ac _ W).drew;have hG1:Gl W.drew:=hGW.below (Ac _ W).drew;obtain⟨av,cv,ev,hvf⟩:=hO.form;rw [Bh,dS] at ev;subst ev;clear hvf;have hV:∀ W',Below (w+5) W W'->W'.cell? ⟨w+1+1+1,2,none⟩=some (.slice none 0 0):=fun W' hb=>by rw [hb.cell (p:=⟨w+1+1+1,2,none⟩) sM];simp [World.cell?,hb3]
  have hF:∀ W',Below (w+5) W W'->W'.frozen? ⟨w+1+1+1,2,none⟩=false:=fun W' hb=>by rw [hb.frozen (p:=⟨w+1+1+1,2,none⟩) sM];exact Bb hb3 _
  have hkl:∀ l∈CH.keys ky h,l.length<=1000000:=fun l hl=>by simp only [CH.keys,Dz] at hl;obtain⟨k,_,rfl⟩:=hl;rw [mX];omega
  have h2n:(CH.keys ky h).length=2 ^ h:=CH.length_keys _ _;go_wp2_with fail;go_region_held3 (fun W'=>W'.cell? ⟨w,0,none⟩=some ↑ky/\W'.cell? ⟨w+1,0,none⟩=some ↑i) (first|exact⟨(D9 _ ⟨w+1+1+1,2,none⟩ ⟨w,0,none⟩ _ (fun e=>by dsimp only at e;omega)).trans (hSk _ hB3).1,(World.cell?_setCell_far _ ⟨w+1+1+1,2,none⟩ ⟨w+1,0,none⟩ _ (fun e=>by dsimp only at e;omega)).trans (hSk _ hB3).2⟩|exact hSk _ hB3|exact hSk _ hB2|exact hSk _ hB1)
   (first
   |(go_at_call 50;refine (Ggk ky h W.drew hG1 hs hh).mono ?_;rintro e w2 ⟨v2,rfl,hO2,hb2⟩;have hB2:Below (w+5) W w2:=hB1.trans (hb2.mono hle);have hG2:=hG1.below hb2;obtain⟨a2,c2,e2,hf2⟩:=hO2.form;rw [h2n] at e2;subst e2;clear hf2)
   |(go_at_call 91;refine (Mry _ (CH.keys ky h) i w2 hG2 hO2.strs oM oM (fun l hl=>hkl l hl)).mono ?_;rintro e w3 ⟨v3,rfl,hS3,fG⟩;have hB3:Below (w+5) W w3:=hB2.trans (fG.mono (Af hle hB2.size));have hv3:w3.cell? ⟨w+1+1+1,2,none⟩=some (.slice none 0 0):=hV _ hB3;have hf3:=hF _ hB3;have HS3:=Aa hS3;obtain⟨a3,c3,e3,xR⟩:=hS3;generalize hn3:(CH.path (CH.keys ky h) i).length=n3 at e3;subst e3;clear xR hn3)
   |fail)
  have hk3:∀ k,k<w.heap.size+5->w3.heap[k]?=W.heap[k]?:=fun k hk=>hB3.block k hk;have h93:=A7 w3 (w+1+1+1) 2 (.slice a3 n3 c3) _ _ _ ((hk3 _ oM).trans hb3);have h92:(w3.setCell ⟨w+1+1+1,2,none⟩ (.slice a3 n3 c3)).heap[w.heap.size+1+1]?=some (.cells #[.int .i64 0,.slice none 0 0,.slice none 0 0] 36 (0,0)):=by simp only [World.setCell];rw [Fh,Ai oM,hk3 _ oM];exact hbr
  simp only [List.setIfInBounds_toArray,List.set_cons_zero,List.set_cons_succ] at h93;have hb9:Below w w (w3.setCell ⟨w+1+1+1,2,none⟩ (.slice a3 n3 c3)):=(hbw.trans (hB3.mono oM)).setCell (by simp;omega) _;have hO3:At (w+5) w3 (.slice av 18 cv) ((eX m).map fun x=>CH.chain x.2.val (CH.start ky i x.1.val)):=((hO.below (Ac _ W).drew).below hb2).below fG;have hO9:At (w+5) (w3.setCell ⟨w+1+1+1,2,none⟩ (.slice a3 n3 c3)) (.slice av 18 cv) ((eX m).map fun x=>CH.chain x.2.val (CH.start ky i x.1.val)):=hO3.kJ oM _ _;have hd3:w3.heap[D]?=some (.deferred (some [])):=by
   have hDlt:D<W.heap.size:=(aZ hdef)
   have EU:D<w2.heap.size:=Ae hDlt hb2.size;rw [fG.block D EU,hb2.block D hDlt];exact hdef
  have LM:D≠w.heap.size+1+1+1:=fun e=>by rw [e] at hdef;rw [hb3] at hdef;cases hdef
  have pz:D≠w.heap.size+1+1:=fun e=>by rw [e] at hdef;rw [hbr] at hdef;cases hdef
  have hS9:Hid (Strs w3 (w3.setCell ⟨w+1+1+1,2,none⟩ (.slice a3 n3 c3)) (.slice a3 n3 c3) (CH.path (CH.keys ky h) i)):=Aa (by refine HS3.out.other (g:=w.heap.size+1+1+1) (fun k s=>?_) (fun k hk=>Bt _ _ _ _ hk);rw [Ab ((hk3 _ oM).trans hb3) k];rcases k with _|_|_|k <;> simp);have hd9:(w3.setCell ⟨w+1+1+1,2,none⟩ (.slice a3 n3 c3)).heap[D]?=some (.deferred (some [])):=by simp only [World.setCell];rw [Fh,Ai (fun e=>LM e.symm)];exact hd3
  have hs9:w.heap.size+5<=w3.heap.size:=Af hle hB3.size;have JK:(w3.setCell ⟨w+1+1+1,2,none⟩ (.slice a3 n3 c3)).heap.size=w3.heap.size:=by simp [World.setCell]
  generalize hW9:w3.setCell ⟨w+1+1+1,2,none⟩ (.slice a3 n3 c3)=W9 at *;have c0:=Ab h93 0;have c1:=Ab h93 1;have c2':=Ab h93 2;have d0:=Ab h92 0;have d1:=Ab h92 1;have d2:=Ab h92 2;have f0:=Bb h92 0;have f1:=Bb h92 1;have f2:=Bb h92 2;simp only [Hy,Fv,Fz] at c0 c1 c2' d0 d1 d2;go_wp2_with fail;refine⟨sM,.inl ⟨_,_,rfl,run_takeDeferred (ds:=[]) ?_,?_⟩⟩;·simp only [World.setCell];rw [Fh,Ai (fun e=>pz e.symm),Fh,Ai (fun e=>pz e.symm),Fh,Ai (fun e=>pz e.symm)];exact hd9
  have g0:=A7 W9 (w+1+1) 0 ↑i _ _ _ h92;have g1:=A7 _ (w+1+1) 1 (.slice av 18 cv) _ _ _ g0;have g2:=A7 _ (w+1+1) 2 (.slice a3 n3 c3) _ _ _ g1;simp only [List.setIfInBounds_toArray,List.set_cons_zero,List.set_cons_succ] at g0 g1 g2;have hDw:w.heap.size<=D:=oM;generalize hX0:W9.setCell ⟨w+1+1,0,none⟩ ↑i=X0 at *;generalize hX1:X0.setCell ⟨w+1+1,1,none⟩ (.slice av 18 cv)=X1 at *;generalize hX2:X1.setCell ⟨w+1+1,2,none⟩ (.slice a3 n3 c3)=X2 at *;have hdX:X2.heap[D]?=some (.deferred (some [])):=by rw [<- hX2,Bt _ _ _ _ pz,<- hX1,Bt _ _ _ _ pz,<- hX0,Bt _ _ _ _ pz];exact hd9
  have hbX:Below w w X2:=by rw [<- hX2,<- hX1,<- hX0];exact ((hb9.setCell (by simp;omega) _).setCell (by simp;omega) _).setCell (by simp;omega) _
  have hOX:At (w+5) X2 (.slice av 18 cv) ((eX m).map fun x=>CH.chain x.2.val (CH.start ky i x.1.val)):=by rw [<- hX2,<- hX1,<- hX0];exact ((hO9.kJ oM _ _).kJ oM _ _).kJ oM _ _
  have hsX:X2.heap.size=w3.heap.size:=by rw [<- hX2,<- hX1,<- hX0];simp [World.setCell,JK]
  have hSX:Strs w3 X2 (.slice a3 n3 c3) (CH.path (CH.keys ky h) i):=by
   refine hS9.out.other (g:=w.heap.size+1+1) (fun k s=>?_) fun k hk=>?_;·rw [Ab h92 k];rcases k with _|_|_|k <;> simp
   ·rw [<- hX2,Bt _ _ _ _ hk,<- hX1,Bt _ _ _ _ hk,<- hX0,Bt _ _ _ _ hk]
  have hgp:=grownBy_putObj' X2 D (.deferred none);have hgX:(X2.putObj D (.deferred none)).heap[w.heap.size+1+1]?=X2.heap[w.heap.size+1+1]?:=hgp.block _ (aZ g2) (fun e=>pz (by simpa using e.symm));have hX3:=hgX.trans g2;have k0:=Ab hX3 0;have k1:=Ab hX3 1;have k2:=Ab hX3 2;simp only [Hy,Fv,Fz] at k0 k1 k2;refine⟨.tuple #[.agg #[↑i,.slice av 18 cv,.slice a3 n3 c3],.int .i64 0],?_,_,_,rfl,?_,?_,?_⟩;·simp [results,Tryz.f51,go_sem,k0,k1,k2]
  ·have h1:=At.strs (Jn hOX hgp (fun r e=>by cases e;exact⟨_,hdX,rfl⟩));rw [Pmj];exact h1
  ·have h2:Strs w3 (X2.putObj D (.deferred none)) (.slice a3 n3 c3) (CH.path (CH.keys ky h) i):=by refine hSX.other (g:=D) (fun k s=>by simp [World.cell?,hdX]) fun k hk=>?_;simp only [World.putObj];exact Iy (fun e=>hk e.symm)
   exact h2.mono (by have:=hgp.size;omega)
  ·exact hbX.grown hgp hbX.size (fun k e=>by cases e;exact hDw)
end
section
open Go.Lib Go.Proofs.Tryz Go.RowKit Go.Shelf CH
variable {F:Fence} {n:Nat} {P:Program}
def GI {α:Type} (p:Nat) (F:Fence) (n:Nat) (P:Program) (g:Nat) (lb:Array ZC) (encs:α->Array ZC) (Kp:ZB->ZB->Prop) (S Sp:List α->Prop) (Ok:List α->α->Prop) (w:ZB):Prop := ∀ (l:Nat) (J Jx:List α->ZB->Prop) (W:ZB),Below w w W->AbidesFrom W J->AbidesFrom W Jx->(∀ pre A v,J pre A->J pre (A.setCell ⟨p,0,none⟩ v)) -> (∀ pre x A,J pre A->Ok pre x->YieldAt F (n - 1) P l (encs x) A fun e B=>(e=.returned (.bool true)/\J (pre++[x]) B/\Kp A B)\/(e=.returned (.bool false)/\Jx (pre++[x]) B)) -> J [] W -> CallsIn F n P g (#[.func (.yield l) #[] #[]]++lb) W fun e B=>(∃ v,e=.returned v)/\((∃ xs,S xs/\J xs B)\/(∃ pre,Sp pre/\Jx pre B))
theorem Ffi {α:Type} {g:Operand} {ps:Array Tmp} {assign body:Code} {Q:Exit->Act->ZB->Prop} {a:Act} {w:ZB} (p:Nat) (hp:p<w.heap.size)
  (hro:F.round=none) (h1:1<=n) {gf:Nat} {lb:Array ZC} (hg:a.eval g=.func (.func gf) #[] lb) (hFg:F.fn gf) (eg:∀ args w,(callFunc gf args).run P w=.ok (.enter gf args) w)
  {encs:α->Array ZC} {Kp:ZB->ZB->Prop} {S Sp:List α->Prop} {Ok:List α->α->Prop} {w0:ZB} (hseq:GI p F (n - 1) P gf lb encs Kp S Sp Ok w0)
  (hKt:∀ {A B C:ZB},Kp A B->Kp B C->Kp A C) (hKb:∀ (W:ZB) (l:Nat) (o o':Obj),w.heap.size<=l->W.heap[l]?=some o->o.isCells=false->o.isWalk=false->Kp W (W.putObj l o'))
  (hb0:Below w0 w0 w) (hps:∀ x,(encs x).size=ps.size)
  (I:List α->ZB->Prop) (Ix:Code->List α->ZB->Prop) (hI:OwnFrom w I) (hIx:∀ c,OwnFrom w (Ix c)) (hIp:∀ pre A v,I pre A->I pre (A.setCell ⟨p,0,none⟩ v)) (h0:I [] w) (a₁:α->Act)
  (hassign:∀ (l:Nat) (x:α) (W:ZB) (K:Act->ZB->Prop),K (a₁ x) W ->
   assign.wpIn (F.inRound l) (n - 1 - 1) P (Exit.then K (fun _ _ _=>False)) { tmps:=(ps.zip (encs x)).foldl (fun t (p,v)=>t.setIfInBounds p v) a.tmps,defers:=[] } W)
  (hbody:∀ (l:Nat) (pre:List α) (x:α) (W:ZB),I pre W->Ok pre x->body.wpIn (F.inRound l) (n - 1 - 1) P (ownPostG w Kp I Ix (pre++[x]) W) (a₁ x) W)
  (hdone:∀ (D:Nat) (xs:List α) (W:ZB),w.heap.size<=D->S xs->I xs W->W.heap[D]?=some (.deferred (some []))->Q .normal { a with defers:={ target:=.collected D,args:=#[] }::a.defers } W)
  (hstop:∀ (D:Nat) (c:Code) (pre:List α) (W:ZB),w.heap.size<=D->Sp pre->Ix c pre W->W.heap[D]?=some (.deferred (some []))->c.wpIn F n P Q { a with defers:={ target:=.collected D,args:=#[] }::a.defers } W) :
  (Code.rangeFunc g ps assign body).wpIn F n P Q a w:=by
 refine wpIn_rangeFunc ?_
 intro fn hfn
 rw [hro]
 obtain⟨rec,hrec⟩:∃ rec:LoopState->Option Code->Loop,rec=fun st pe=>{ state:=st,pending:=pe,fn,tmps:=a.tmps,params:=ps,assign,body,defers:=w.heap.size }:=⟨_,rfl⟩
 obtain⟨V,hV⟩:∃ V,(w.alloc (.deferred (some []))).alloc (.loop (rec .ready none))=V:=⟨_,rfl⟩
 have bV:Below w w V:=by rw [<- hV];exact ((Ac _ w).alloc nR _).alloc sM _
 have zV:V.heap.size=w.heap.size+1+1:=by rw [<- hV];simp
 have vX:V.heap[w.heap.size+1]?=some (.loop (rec .ready none)):=by
  exact FD150
 have tN:V.heap[w.heap.size]?=some (.deferred (some [])):=by
  rw [<- hV];exact (Kw _ _ _ sM).trans (Aw w _)
 have IV:I [] V:=by rw [<- hV];exact hI.alloc _ (hI.alloc _ h0)
 refine⟨w+1,[{ target:=.collected w.heap.size,args:=#[] }],V,{ target:=.fn (.func gf) lb,args:=#[.func (.yield (w.heap.size+1)) #[] #[]] },V,gf,
  #[.func (.yield (w.heap.size+1)) #[] #[]]++lb,V,?_,?_,?_,?_,fun _=>h1,?_⟩
 ·rw [<- hV,hrec];exact run_enterLoop_outer _ _ _ _ _
 ·simp only [resolve,hg]
  simp [go_sem]
 ·intro f' hf';simp [Target.leads] at hf';subst hf';exact hFg
 ·simp [invoke,go_sem,eg]
 have far:∀ {A:ZB} {row:Option Nat},(∀ r,row=some r->V.heap.size<=r/\∃ o:Obj,A.heap[r]?=some o/\o.isWalk=true)->∀ r,row=some r->w.heap.size<=r/\∃ o:Obj,A.heap[r]?=some o/\o.isCells=false :=
  fun hr r e=>by obtain⟨h1,o,h2,h3⟩:=hr r e;exact⟨oM,o,h2,Obj.not_cells_of_walk h3⟩
 have put:∀ (A:ZB) (k:Nat) (v:ZC),k≠p->(A.setCell ⟨p,0,none⟩ v).heap[k]?=A.heap[k]?:=fun A k v hk=>Bt _ _ _ _ hk
 refine (hseq (w+1)
  (fun pre A=>I pre A/\A.heap[w.heap.size+1]?=some (.loop (rec .ready none))/\A.heap[w.heap.size]?=some (.deferred (some [])))
  (fun pre A=>∃ c,Ix c pre A/\A.heap[w.heap.size+1]?=some (.loop (rec .done (some c)))/\A.heap[w.heap.size]?=some (.deferred (some [])))
  V (hb0.trans (bV.mono hb0.size))
  (fun s A B row hs hg' hr=>⟨hI s A B row hs.1 hg' (far hr),(grownBy_keeps hg' (fun r e=>(hr r e).2) hs.2.1 rfl).trans hs.2.1,(grownBy_keeps hg' (fun r e=>(hr r e).2) hs.2.2 rfl).trans hs.2.2⟩)
  (fun s A B row hs hg' hr=>by
   obtain⟨c,hc,hl,hk⟩:=hs
   exact⟨c,hIx c s A B row hc hg' (far hr),(grownBy_keeps hg' (fun r e=>(hr r e).2) hl rfl).trans hl,(grownBy_keeps hg' (fun r e=>(hr r e).2) hk rfl).trans hk⟩)
  (fun pre A v hs=>⟨hIp pre A v hs.1,(put A _ v oM).trans hs.2.1,(put A _ v oM).trans hs.2.2⟩)
  ?_ ⟨IV,vX,tN⟩).mono ?_
 ·rintro pre x A ⟨hi,hl,hk⟩ hlen
  have hlt:w.heap.size+1<A.heap.size:=(aZ hl)
  have hy:=run_yield (P:=P) (args:=encs x) hl (by rw [hrec];exact hps x)
  rw [hrec] at hy
  refine⟨fn,_,assign,body,hy,roundIn_of_wpIn hfn (hassign _ x A _ ⟨_,run_beginRound hl (by rw [hrec]),?_⟩)⟩
  obtain⟨busy,jM⟩:∃ b:Obj,b=.loop { rec .ready none with state:=.busy }:=⟨_,rfl⟩
  rw [<- jM]
  have l2:(A.putObj (w+1) busy).heap[w.heap.size+1]?=some busy:=World.putObj_heap_same hlt
  have k2:(A.putObj (w+1) busy).heap[w.heap.size]?=some (.deferred (some [])):=(World.putObj_heap_other oM).trans hk
  have b2:Kp A (A.putObj (w+1) busy):=hKb _ _ _ _ oM hl rfl rfl
  have i2:I pre (A.putObj (w+1) busy):=hI.putObj _ hi oM hl rfl
  have ends:∀ (jump:Option Code) (C:ZB),KeepsFrom w (A.putObj (w+1) busy) C ->
    (Instr.endRound (w+1) jump).run P C=.ok (.bool jump.isNone) (C.putObj (w+1) (.loop (rec (if jump.isNone then .ready else .done) jump))) /\
    C.heap[w.heap.size+1]?=some busy /\
    (C.putObj (w+1) (.loop (rec (if jump.isNone then .ready else .done) jump))).heap[w.heap.size+1]?=some (.loop (rec (if jump.isNone then .ready else .done) jump)) /\
    (C.putObj (w+1) (.loop (rec (if jump.isNone then .ready else .done) jump))).heap[w.heap.size]?=some (.deferred (some [])):=fun jump C hC=>by
   have l3:=hC.same _ _ oM l2 (by rw [jM];rfl)
   have l3':=l3
   rw [jM] at l3'
   have:=run_endRound (P:=P) jump l3'
   rw [hrec] at this ⊢
   exact⟨this,l3,World.putObj_heap_same (aZ l3),(World.putObj_heap_other oM).trans (hC.same _ _ nR k2 rfl)⟩
  refine wpIn_mono (hbody _ pre x _ i2 hlen) ?_
  have jumps:∀ (c:Code) (C:ZB),KeepsFrom w (A.putObj (w+1) busy) C/\Ix c (pre++[x]) C->∃ v B,(Instr.endRound (w+1) (some c)).run P C=.ok v B/\((Ending.returned v=.returned (.bool true)/\(I (pre++[x]) B/\B.heap[w.heap.size+1]?=some (.loop (rec .ready none))/\B.heap[w.heap.size]?=some (.deferred (some [])))/\Kp A B)\/(Ending.returned v=.returned (.bool false)/\∃ c,Ix c (pre++[x]) B/\B.heap[w.heap.size+1]?=some (.loop (rec .done (some c)))/\B.heap[w.heap.size]?=some (.deferred (some [])))):=fun c C h=>by
   obtain⟨hr,hl3,hl4,hk4⟩:=ends (some c) C h.1
   exact⟨_,_,hr,.inr ⟨rfl,c,(hIx c).putObj _ h.2 oM hl3 (by rw [jM];rfl),hl4,hk4⟩⟩
  rintro e a3 C hC
  cases e with
  |normal =>
   obtain⟨hk3,hkp3,hi3⟩:=hC
   obtain⟨hr,hl3,hl4,hk4⟩:=ends none C hk3
   exact⟨_,_,hr,.inl ⟨rfl,⟨hI.putObj _ hi3 oM hl3 (by rw [jM];rfl),hl4,hk4⟩,hKt (hKt b2 hkp3) (hKb _ _ _ _ oM hl3 (by rw [jM];rfl) (by rw [jM];rfl))⟩⟩
  |ret=>exact jumps _ C hC
  |exit id=>exact jumps _ C hC
  |goto t=>exact jumps _ C hC
  |panic ch=>exact hC.elim
  |outgrown=>exact hC.elim
 ·rintro e B ⟨⟨v,rfl⟩,(⟨xs,hS,hi,hl,hk⟩|⟨pre,hSp,c,hi,hl,hk⟩)⟩
  ·exact FD78
  ·exact⟨some c,_,by have:=run_endLoop (P:=P) hl (by rw [hrec];simp);rw [hrec] at this;exact this,hstop _ c pre _ nR hSp ((hIx c).putObj _ hi oM hl rfl) ((World.putObj_heap_other oM).trans hk)⟩
end
end Go.Proofs.Y
namespace CH
section
theorem oN (k:Int) (s:Str):slen k s<=s.length:=by
 have h1:∀ (i:Nat) (set:Str),isIn s i set=true->i<s.length:=fun i set h=>by
  unfold isIn at h;split at h;·cases h
  ·rename_i c hc;exact (lS hc)
 have h2:eU s=true->0<s.length:=fun h=>by
  unfold eU at h;split at h;·cases h
  ·rename_i c hc;exact (lS hc)
 unfold slen;split
 ·split;·rename_i h;have:=h1 _ _ h;omega
  ·omega
 split
 ·split
  ·rename_i h;have:=h2 h;split;·rename_i h';have:=h1 _ _ h';omega
   ·omega
  ·omega
 split
 ·split;·rename_i h;have:=h1 _ _ h;omega
  ·omega
 split
 ·split;·rename_i h;simp only [Ba] at h;have:=h1 _ _ h.2;omega
  ·split
   ·rename_i h;simp only [Ec] at h;rcases h with h|h;·have:=h1 _ _ h;omega
    ·have:=h1 _ _ h;omega
   ·omega
 ·omega
theorem bT (k:Int) (f:Nat) (s:Str) (h:slen k s=0):letters k (f+1) s=([],s):=by show (if _ then _ else _)=_;rw [Au h]
theorem fA (k:Int) (f:Nat) (s:Str) (h:slen k s≠0):letters k (f+1) s=((s.take (slen k s))::(letters k f (s.drop (slen k s))).1,(letters k f (s.drop (slen k s))).2):=by show (if _ then _ else _)=_;rw [Ai h]
theorem mW (k:Int):∀ (f:Nat) (s:Str),(letters k f s).1.length=f->slen k (letters k f s).2≠0 -> letters k (f+1) s=((letters k f s).1++[(letters k f s).2.take (slen k (letters k f s).2)],(letters k f s).2.drop (slen k (letters k f s).2)):=by
 intro f;induction f with
 |zero =>intro s _ h;have h':slen k s≠0:=h;rw [fA k 0 s h'];rfl
 |succ f ih =>
  intro s hl h;by_cases h0:slen k s=0;·rw [bT k f s h0] at hl;simp at hl
  ·rw [fA k f s h0] at hl h;simp at hl;have:=ih (s.drop (slen k s)) hl h;rw [show letters k (f+1+1) s=((s.take (slen k s))::(letters k (f+1) (s.drop (slen k s))).1,(letters k (f+1) (s.drop (slen k s))).2) from fA k (f+1) s h0];rw [this];rw [show letters k (f+1) s=((s.take (slen k s))::(letters k f (s.drop (slen k s))).1,(letters k f (s.drop (slen k s))).2) from fA k f s h0];rfl
theorem qJ (k:Int):∀ (f:Nat) (s:Str),slen k (letters k f s).2=0->∀ g,f<=g->letters k g s=letters k f s:=by
 intro f;induction f with
 |zero =>
  intro s h g hg;cases g with
  |zero=>rfl
  |succ g =>have h':slen k s=0:=h;rw [bT k g s h'];rfl
 |succ f ih =>
  intro s h g hg;cases g with
  |zero=>omega
  |succ g =>
   by_cases h0:slen k s=0;·rw [bT k f s h0,bT k g s h0]
   ·rw [fA k f s h0] at h;rw [fA k f s h0,fA k g s h0,ih _ h g oM]
theorem qK (k:Int):∀ (f:Nat) (s:Str),(letters k f s).2.length<=s.length:=by
 intro f;induction f with
 |zero=>intro s;exact Bg _
 |succ f ih =>
  intro s;by_cases h0:slen k s=0;·rw [bT k f s h0];exact Bg _
  ·rw [fA k f s h0];refine Af (ih _) ?_;simp
theorem Aai (n:Nat) (h:n<16):isHex (hexDigit n)=true:=by
 have:∀ k:Fin 16,isHex (hexDigit k.val)=true:=by decide +kernel
 exact this ⟨n,h⟩
theorem Aa3 (k n:Nat):(gy k n).all isHex=true:=by
 induction k generalizing n with
 |zero=>rfl
 |succ k ih=>simp only [gy,Jg,ih,J7,Ns,Aai _ (J3 n (dC:0<16)),Bool.and_self]
theorem jc (l:Q00):ay (sum l)=true:=by
 have h1:=dL l;have h2:(sum l).all isHex=true:=by unfold sum;generalize yS l=n;exact Aa3 16 n
 generalize sum l=s at *;unfold ay;rw [h1,h2];rfl
theorem Ol (ls:List Q00):ay (dl ls)=true:=jc _
theorem Yh (n:Nat) (l:Q00) (h:ay l=true):ay (chain n l)=true:=by
 cases n with
 |zero=>exact h
 |succ n=>rw [iP];exact jc _
theorem jH (ls:List Q00):ay (root ls)=true:=by
 rcases ls with _|⟨x,_|⟨y,r⟩⟩;·exact Ol _
 ·exact Ol _
 ·rw [kK _ sM];exact jc _
theorem Oj (f:Nat):∀ (ls:List Q00) (i:Nat),∀ x∈iq f ls i,ay x=true:=by
 induction f with
 |zero=>intro ls i x hx;simp [iq] at hx
 |succ f ih =>
  intro ls i x hx;unfold iq at hx;split at hx;·simp at hx
  ·split at hx
   ·rcases Bl.1 hx with rfl|hx;·exact jH _
    ·exact ih _ _ x hx
   ·rcases Bl.1 hx with rfl|hx;·exact jH _
    ·exact ih _ _ x hx
theorem lQ (ls:List Q00) (i:Nat):∀ x∈path ls i,ay x=true:=fun x hx=>Oj _ _ _ x (List.mem_reverse.1 hx)
theorem mZ (ky:Q00) (i:Nat) (m:Q00):∀ x∈sig ky i m,ay x=true:=fun x hx=>by obtain⟨y,_,rfl⟩:=Dz.1 hx;exact Yh _ _ (Ol _)
theorem Aax (a b:Nat) (l:Q00):chain a (chain b l)=chain (b+a) l:=by
 induction b generalizing l with
 |zero=>rw [Bf];rfl
 |succ b ih=>rw [Nat.add_right_comm];exact ih (sum l)
theorem l9 (ky:Q00) (i:Nat) (m:Q00):(sig ky i m).length=18:=by simp [sig,length_digits]
theorem Aa6 (ky:Q00) (i:Nat) (m:Q00):ends (sig ky i m) m=(List.range 18).map fun k=>chain 15 (start ky i k):=by
 apply Jf;intro k;by_cases hk:k<18
 ·have hd:k<(digits m).length:=by rw [length_digits];exact hk
  obtain⟨d,hdk⟩:∃ d,(digits m)[k]?=some d:=⟨_,Ad hd⟩
  have hle:=oh m _ (Ap hdk);have hz:((digits m).zip (sig ky i m))[k]?=some (d,chain d (start ky i k)):=by rw [List.getElem?_zip_eq_some];refine⟨hdk,?_⟩;unfold sig;rw [Dq,List.getElem?_zipIdx,hdk,Gq,Gq,Bf]
  unfold ends;rw [Dq,hz,Dq,Kz hk,Gq,Gq];dsimp only;rw [Aax,show d+(15 - d)=15 from by omega]
 ·rw [F8 (by simp [ends,length_digits,l9];omega),F8 (by simp;omega)]
theorem rX (ky:Q00) (i:Nat) (m:Q00):dl (ends (sig ky i m) m)=jZ ky i:=by rw [Aa6];rfl
theorem xK (ky:Q00) (h i:Nat) (hi:i<2 ^ h):(keys ky h)[i]?=some (jZ ky i):=by unfold keys;rw [Dq,Kz hi];rfl
theorem l7 (l:List Q00) (d:Q00) (b:Bool) (hd:d.length=16):gU (l++[d],b)=(d,(l,b)):=by
 unfold gU;rw [List.getLast?_concat];dsimp only;rw [List.dropLast_concat];have:d.isEmpty=false:=by cases d with|nil=>simp at hd|cons=>rfl
 rw [this,Bool.or_false]
theorem Aa0 (f:Nat):∀ (g:Nat) (ls:List Q00) (i:Nat) (leaf:Q00) (pre:List Q00) (b:Bool),ls.length<=f->ls.length<=g->ls[i]?=some leaf -> upF leaf f ls.length i (pre++(iq g ls i).reverse,b)=(root ls,(pre,b)):=by
 induction f with
 |zero =>intro g ls i leaf pre b hf _ hi;have:ls=[]:=Bo.1 oM;subst this;simp at hi
 |succ f ih =>
  intro g ls i leaf pre b hf hg hi;have hil:i<ls.length:=(lS hi)
  by_cases h1:ls.length=1
  ·match ls,h1 with
   |[x],_ =>
    obtain rfl:i=0:=by simpa using hil
    obtain rfl:x=leaf:=by simpa using hi
    rw [nU _ _ _ sM];simp only [List.reverse_nil,Gg];rfl
  ·have h2:2<=ls.length:=oM;obtain⟨g,rfl⟩:∃ g',g=g'+1:=⟨g - 1,oM⟩
   have hp:=jo ls.length;have hh:=jB ls.length h2;have ht:(ls.take (half ls.length)).length=half ls.length:=by rw [C9];omega
   have hd:(ls.drop (half ls.length)).length=ls.length - half ls.length:=by rw [Ei]
   rw [upF,Ai h1];by_cases hlt:i<half ls.length;·rw [Au hlt,lZ _ _ _ h2 hlt,List.reverse_cons,<- Dv,l7 _ _ _ (jw _)];dsimp only;have:=ih g (ls.take (half ls.length)) i leaf pre b oM oM (by rw [Hw hlt];exact hi);rw [ht] at this;rw [this,kK ls h2]
   ·rw [Ai hlt,kM _ _ _ h2 hlt,List.reverse_cons,<- Dv,l7 _ _ _ (jw _)];dsimp only;have:=ih g (ls.drop (half ls.length)) (i - half ls.length) leaf pre b oM oM (by rw [Gu,show half ls.length+(i - half ls.length)=i from by omega];exact hi);rw [hd] at this;rw [this,kK ls h2]
theorem oP (ls:List Q00) (i:Nat) (leaf:Q00) (hi:ls[i]?=some leaf):dF (root ls) ls.length i leaf (path ls i)=true:=by
 have h:=Aa0 ls.length ls.length ls i leaf [] false nR nR hi;rw [Dl] at h;unfold dF path;rw [h];have:(iq ls.length ls i).reverse.all ay=true:=by rw [Df];exact fun x hx=>Oj _ _ _ x (List.mem_reverse.1 hx)
 rw [this];simp
theorem Aac (h:Nat):∀ (d j f:Nat),j+d=h->d<=f->jC f (2 ^ (h+1)) (2 ^ j)=2 ^ h
 |0,j,f,hj,_=>by
  obtain rfl:j=h:=oM
  rw [mF]
  rw [Jb];omega
 |d+1,j,f,hj,hf=>by
  obtain⟨f,rfl⟩:∃ f',f=f'+1:=⟨f - 1,oM⟩
  have hlt:2 ^ (j+1)<2 ^ (h+1):=Nat.pow_lt_pow_right dC oM
  have e:2*2 ^ j=2 ^ (j+1):=by rw [Jb];omega
  rw [jC,e,Au hlt]
  exact Aac h d (j+1) f oM oM
theorem nK (h:Nat):half (2 ^ (h+1))=2 ^ h:=by have hlt:h<2 ^ h:=Nat.lt_two_pow_self;have:2 ^ h<=2 ^ (h+1):=Kr dC oM;exact Aac h h 0 (2 ^ (h+1)) oM oM
theorem Aae (h:Nat):∀ (g:Nat) (ls:List Q00) (i:Nat),ls.length=2 ^ h->ls.length<=g->(iq g ls i).length=h:=by
 induction h with
 |zero=>intro g ls i hl _;rw [nU _ _ _ (by rw [hl];exact Bg _)];rfl
 |succ h ih =>
  intro g ls i hl hg;have hpos:1<=2 ^ h:=Nat.one_le_two_pow;have hs:2 ^ (h+1)=2 ^ h+2 ^ h:=by rw [Jb];omega
  obtain⟨g,rfl⟩:∃ g',g=g'+1:=⟨g - 1,oM⟩
  have uz:half ls.length=2 ^ h:=by rw [hl];exact nK h
  by_cases hlt:i<half ls.length;·rw [lZ _ _ _ oM hlt,A8,ih g _ _ (by rw [C9,uz];omega) (by rw [C9,uz];omega)]
  ·rw [kM _ _ _ oM hlt,A8,ih g _ _ (by rw [Ei,uz];omega) (by rw [Ei,uz];omega)]
theorem oG (ky:Q00) (h i:Nat):(path (keys ky h) i).length=h:=by unfold path;rw [List.length_reverse];exact Aae h _ _ _ (length_keys _ _) nR
end
end CH
namespace Go.Proofs.Y
section
open Go.Lib Go.Proofs.Tryz Go.RowKit Go.Shelf CH
attribute [local go_sem] Jt
def GL (k:Int) (s:Q00) (pre:List Q00) (x:Q00):Prop := (CH.letters k pre.length s).1=pre/\CH.slen k (CH.letters k pre.length s).2≠0/\x=(CH.letters k pre.length s).2.take (CH.slen k (CH.letters k pre.length s).2)
def MJ (k:Int) (s:Q00) (xs:List Q00):Prop:=(CH.letters k xs.length s).1=xs/\CH.slen k (CH.letters k xs.length s).2=0
def GV (n₀ p q:Nat) (A B:ZB):Prop:=Below n₀ A B/\B.heap[p]?=A.heap[p]?/\B.heap[q]?=A.heap[q]?
theorem Gge (k:Int) (s:Q00) (hs:s.length<=1000000) (n:Nat) (hn:1<=n) (n₀ p q:Nat) (wE w:ZB) (hG:Gc wE) (hE:wE.heap.size=n₀) (hbE:Below n₀ wE w) (hp0:n₀<=p) (hq0:n₀<=q) (hpq:p≠q) (hp:w.heap[p]?=some (.cells #[↑s] 9 (0,0))) (hq:w.heap[q]?=some (.cells #[↑k] 3 (0,0))) : GI p Fence.wide n prog 320 #[.pointer (some ⟨q,0,none⟩),.pointer (some ⟨p,0,none⟩)] (fun x:Q00=>#[↑x]) (GV n₀ p q) (MJ k s) (fun _=>True) (GL k s) w:=fun l J Jx W hW hJ hJx hJp hY h0=>by
 have hpl:p<w.heap.size:=(aZ hp)
 have hql:q<w.heap.size:=(aZ hq)
 have pW:=(hW.block p hpl).trans hp;have qW:=(hW.block q hql).trans hq;have bW:Below n₀ wE W:=hbE.trans (hW.mono (by have:=hbE.size;omega));have LEN:=Aa fun (A:ZB) (r:Q00) (hr:r.length<=1000000) (hb:Below n₀ wE A)=>I06 k r A (hG.below (by rw [hE];exact hb)) hr;have HY:=Aa hY;clear hY;refine Nw func320 rfl trivial ?_ rfl;simp only [ntmps320,Ip,A8,Bj,Nat.reduceAdd,Nat.reduceSub,Ig,Ie,I7,Il,Dl,Ea];have c1:W.cell? ⟨q,0,none⟩=some ↑k:=Ab qW 0;have c2:W.cell? ⟨p,0,none⟩=some ↑s:=Ab pW 0;gi_wp2_with fail;refine⟨trivial,?_⟩;refine (Jj.2 (LEN.out W s hs bW)).mono ?_;rintro e W1 ⟨rfl,hb1⟩;have hJ1:J [] W1:=hJ [] W W1 none h0 (Mh hb1) (fun r e=>by cases e);have p1:=(hb1.block p (aZ pW)).trans pW;have q1:=(hb1.block q (aZ qW)).trans qW;have b1:Below n₀ wE W1:=bW.trans (hb1.mono (by have:=bW.size;omega));clear c1 c2;gi_wp2_with fail;gi_loopw [4] (fun nv wr=>∃ (m:Nat) (pre:List Q00) (r:Q00),Hid (pre=(CH.letters k m s).1/\pre.length=m/\r=(CH.letters k m s).2)/\r.length<=1000000/\nv=.int .i64 (CH.slen k r:Nat)/\J pre wr /\ wr.heap[p]?=some (.cells #[↑r] 9 (0,0))/\wr.heap[q]?=some (.cells #[↑k] 3 (0,0))/\Below n₀ wE wr) (fun _ wr=>match wr.cell? ⟨p,0,none⟩ with|some (.string b)=>b.size|_=>0);case atStart=>exact⟨0,[],s,Aa ⟨rfl,rfl,rfl⟩,hs,rfl,hJ1,p1,q1,b1⟩
 case round =>
  obtain⟨m,pre,r,hm,hrl,rfl,hJr,pr,qr,br⟩:=hrel;have c1:wr.cell? ⟨q,0,none⟩=some ↑k:=Ab qr 0;have c2:wr.cell? ⟨p,0,none⟩=some ↑r:=Ab pr 0;have hsl:=oN k r;obtain⟨j,hj⟩:∃ j,Hid (CH.slen k r=j):=⟨_,Aa rfl⟩
  rw [hj.out] at hsl ⊢;by_cases hj0:j=0
  ·have d1:ZH ((0:Int)<(j:Int))=false:=by simp;omega
   gi_wp2;refine⟨fun f e=>(by cases e),?_⟩;gi_wp2;go_end0;refine⟨⟨_,rfl⟩,.inl ⟨pre,⟨?_,?_⟩,hJr⟩⟩;·obtain⟨h1,h2,h3⟩:=hm.out;rw [h2];exact h1.symm
   ·obtain⟨h1,h2,h3⟩:=hm.out;rw [h2,<- h3];exact hj.out.trans hj0
  ·have d1:ZH ((0:Int)<(j:Int))=true:=by simp;omega
   obtain⟨fn,tmps,assign,body,hy,hR⟩:=HY.out pre (r.take j) wr hJr (by
    obtain⟨h1,h2,h3⟩:=hm.out;refine⟨by rw [h2];exact h1.symm,?_,?_⟩;·rw [h2,<- h3,hj.out];exact hj0
    ·rw [h2,<- h3,hj.out])
   have he:(ByteArray.mk r.toArray).extract 0 j=⟨(r.take j).toArray⟩:=by rw [Fk];simp
   gi_wp2_with fail;refine hR.mono ?_;rintro e W3 (⟨rfl,hJ3,hk3,hp3,hq3⟩|⟨rfl,hJx3⟩)
   ·have p3:=hp3.trans pr;have q3:=hq3.trans qr;have b3:Below n₀ wE W3:=br.trans (hk3.mono nR);clear hR hy he hJr c1 c2;have c1:W3.cell? ⟨q,0,none⟩=some ↑k:=Ab q3 0;have c2:W3.cell? ⟨p,0,none⟩=some ↑r:=Ab p3 0;have f2:W3.frozen? ⟨p,0,none⟩=false:=Bb p3 0;have p4:=A7 W3 p 0 (.string ⟨(r.drop j).toArray⟩) _ _ _ p3;have q4:=(Bt W3 ⟨p,0,none⟩ (.string ⟨(r.drop j).toArray⟩) q (fun e=>hpq e.symm)).trans q3;simp only [List.setIfInBounds_toArray,List.set_cons_zero] at p4;have b4:=b3.setCell (p:=⟨p,0,none⟩) hp0 (.string ⟨(r.drop j).toArray⟩);have hJ4:=hJp _ _ (.string ⟨(r.drop j).toArray⟩) hJ3;have he2:(ByteArray.mk r.toArray).extract j r.length=⟨(r.drop j).toArray⟩:=Eg r j;gi_wp2_with fail;generalize hW4:W3.setCell ⟨p,0,none⟩ (.string ⟨(r.drop j).toArray⟩)=W4 at *;have d1:W4.cell? ⟨q,0,none⟩=some ↑k:=Ab q4 0;have d2:W4.cell? ⟨p,0,none⟩=some (.string ⟨(r.drop j).toArray⟩):=Ab p4 0;gi_wp2_with fail;refine⟨trivial,?_⟩;have hdl:(r.drop j).length=r.length - j:=Ei;refine (Jj.2 (LEN.out W4 (r.drop j) oM b4)).mono ?_;rintro e W5 ⟨rfl,hb5⟩;have hJ5:J (pre++[r.take j]) W5:=hJ _ W4 W5 none hJ4 (Mh hb5) (fun r e=>by cases e);have p5:=(hb5.block p (aZ p4)).trans p4;have q5:=(hb5.block q (aZ q4)).trans q4;have b5:Below n₀ wE W5:=b4.trans (hb5.mono (by have:=b4.size;omega));have hnext:Hid (pre++[r.take j]=(CH.letters k (m+1) s).1/\(pre++[r.take j]).length=m+1/\r.drop j=(CH.letters k (m+1) s).2):=Aa (by obtain⟨h1,h2,h3⟩:=hm.out;have hsu:=mW k m s (by rw [<- h1];exact h2) (by rw [<- h3,hj.out];exact hj0);rw [<- h3,hj.out,<- h1] at hsu;rw [hsu];exact⟨rfl,by simp;exact h2,rfl⟩);have d3:W5.cell? ⟨p,0,none⟩=some (.string ⟨(r.drop j).toArray⟩):=Ab p5 0;clear d1 d2 c1 c2 f2 p3 q3 p4 q4 b4 hJ4 hJ3 hm he2;gi_wp2;go_roundw;case rel=>exact⟨m+1,pre++[r.take j],r.drop j,hnext,oM,rfl,hJ5,p5,q5,b5⟩
    case measure =>have c2:wr.cell? ⟨p,0,none⟩=some ↑r:=Ab pr 0;rw [d3,c2];show (r.drop j).toArray.size<r.toArray.size;simp;omega
   ·clear hR hy he hJr;gi_wp2;go_end0;exact⟨⟨_,rfl⟩,.inr ⟨_,trivial,hJx3⟩⟩
end
section
open Go.Lib Go.Proofs.Tryz Go.RowKit CH
variable {Q:Exit->Act->ZB->Prop}
theorem Ni {P:Program} (w:ZB) (t ty e:TypeId) (i:TypeInfo) (ht:P.underlying t=some (.slice e)) (hi:P.info? e=some i) (a:Option Addr) (n cap c:Nat) (hn:n<=cap) : (Builtin.append_ #[t,t] ty #[.slice a n cap,.slice none 0 c]).run P w=.ok (.slice a n cap) w:=by
 cases a with
 |none=>simp [Builtin.append_,Ej ht,sizeOf,typeInfo,hi,Builtin.lenOf,Builtin.firstCells,hn,Result.andThen]
 |some a=>simp [Builtin.append_,Ej ht,sizeOf,typeInfo,hi,Builtin.lenOf,Builtin.firstCells,hn,Result.andThen,storeCells]
def Fy (w:ZB) (vx:ZC) (m:Nat) (news:List ZC):Prop := (∃ ad c,vx=.slice (some ad) m c/\∀ j u,news[j]?=some u->w.cell? (ad.add j)=some u)\/(∃ c,vx=.slice none 0 c/\m=0/\news=[])
theorem K9 {P:Program} (w:ZB) {ops:Array Oper} {rest:List Oper} {o:Oper} {a:Act} (hgd:o.guard=none) (s x:Operand) (t:TypeId) (ho:o.op=.call { callee:=.builtin .append,args:=#[s,x],argTypes:=#[t,t] }) (base:Nat) (e:TypeId) (i:TypeInfo) (z:ZC) (size bytes:Nat) (ht:P.underlying t=some (.slice e)) (hi:P.info? e=some i) (hz:i.zero=some z) (hsize:i.size=size) (hby:i.bytes=bytes) (hzs:z.cells.size=size) (hsz:0<size) (v:ZC) (n:Nat) (xs:List ZC) (hs:a.eval s=v) (hown:w.ownsRow base e size v n xs) (vx:ZC) (m:Nat) (news:List ZC) (hx:a.eval x=vx) (hsrc:Fy w vx m news) (hl:news.length=m*size) (h1:∀ u∈news,u.oneCell'=true) (h63:n+m<=maxLen) (hbytes:(n+m)*bytes<=140737488355328) (hbase:base<=w.heap.size) (h:∀ v' w',w'.ownsRow base e size v' (n+m) (xs++news)->w.grownBy w' v.ownBlock->(v'.ownBlock=v.ownBlock\/v'.ownBlock=some w.heap.size)->wpList P ops Q rest (a.put o.dst v') w') : wpList P ops Q (o::rest) a w:=by
 rcases hsrc with⟨ad,c,rfl,hnews⟩|⟨c,rfl,rfl,rfl⟩;·exact wpList_append_own_at w hgd s x t ho base e i z size bytes ht hi hz hsize hby hzs hsz v n xs hs hown ad m c news hx hl hnews h1 h63 hbytes hbase (fun v' w' a1 a2 _ a4=>h v' w' a1 a2 a4)
 ·refine wpList_plain hgd fun K hK=>?_;obtain⟨av,cv,rfl,hcv⟩:∃ av cv,v=.slice av n cv/\n<=cv:=by exact FD108
  have hr:=Ni (P:=P) w t o.type e i ht hi av n cv c hcv;unfold Oper.wp execOp;simp only [ho,resolve,invoke,builtin,Js,Kv,Io,List.map_toArray,Fa,Iq,hs,hx,hr];exact hK _ _ (h _ _ (by simpa using hown) (World.grownBy.refl _ _) (.inl rfl))
theorem Strs.source {B:Nat} {w:ZB} {v:ZC} {ls:List Q00} (h:Strs B w v ls):Fy w v ls.length (ls.map aA):=by
 obtain⟨a,cap,rfl,h1,h2,h3⟩:=h;cases a with
 |none =>
  have:ls=[]:=by apply Gp;intro hne;obtain⟨b,off,e,_⟩:=h3 hne;cases e
  subst this;exact .inr ⟨cap,rfl,rfl,rfl⟩
 |some ad =>
  refine .inl ⟨ad,cap,rfl,fun j u hj=>?_⟩;have hne:ls≠[]:=fun e=>by rw [e] at hj;simp at hj
  obtain⟨b,off,e,_,hc⟩:=h3 hne;cases e;rw [Dq] at hj;cases hl:ls[j]? with
  |none=>rw [hl] at hj;cases hj
  |some l =>rw [hl] at hj;cases hj;have:=hc j l hl;rw [show (⟨b,off,none⟩:Addr).add j=⟨b,off+j,none⟩ from by simp [Addr.add]];exact this
theorem K7 {w:ZB} {ops:Array Oper} {rest:List Oper} {o:Oper} {a:Act} (hgd:o.guard=none) (s x:Operand) (ho:o.op=.call { callee:=.builtin .append,args:=#[s,x],argTypes:=#[22,22] }) (base:Nat) (v:ZC) (ls:List Q00) (hs:a.eval s=v) (hown:At base w v ls) (B:Nat) (vx:ZC) (lx:List Q00) (hx:a.eval x=vx) (hX:Strs B w vx lx) (hlen:ls.length+lx.length<=1099511627776) (hbase:base<=w.heap.size) (h:∀ v' w',At base w' v' (ls++lx)->w.grownBy w' v.ownBlock->(v'.ownBlock=v.ownBlock\/v'.ownBlock=some w.heap.size)->wpList prog ops Q rest (a.put o.dst v') w') : wpList prog ops Q (o::rest) a w:=by
 obtain⟨i,hi,hz0,hz1,hz2⟩:=H8 Qq;refine K9 w hgd s x 22 ho base 9 i _ 1 16 underlying22 hi hz0 hz1 hz2 rfl dC v ls.length _ hs hown vx lx.length (lx.map aA) hx hX.source sM ?_ ?_ ?_ hbase ?_;·intro u hu;obtain⟨l,_,rfl⟩:=Dz.1 hu;rfl
 ·exact FD145
 ·omega
 ·intro v' w' h1 h2 h4;exact h v' w' (by unfold At;simpa using h1) h2 h4
end
end Go.Proofs.Y

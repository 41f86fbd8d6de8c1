/- Part 15. -/
import Derived.Test.YtajmjabodcmonaaGreatDoorP13
set_option linter.all false
set_option maxHeartbeats 40000000
set_option maxRecDepth 100000
open Go renaming World -> ZB, Value -> ZC, Calls -> ZE
open Go.RowKit renaming intOf -> ZG
open Decidable renaming decide -> ZH
open Go.Lib renaming itoa -> ZK
namespace Go.Proofs.Y
section
open Go.Lib Go.Proofs.Tryz Go.RowKit Go.Shelf Go.Sort CH
variable {s:Q00} {ls:List Q00}
theorem B7c (v v':ZC) (l:List Q01) (w:ZB) (h:L3 w w v l) (h':L3 w w v' l) : ZE prog 15 #[v,v'] w (Ret w (.bool true)):=by
 obtain⟨a,cap,rfl,hl,hcap,hne⟩:=h;obtain⟨a',cap',rfl,hl',hcap',hne'⟩:=h';have hne:=Aa hne;have hne':=Aa hne';obtain⟨N,hN⟩:∃ N,l.length=N:=⟨_,rfl⟩
 rw [hN] at hl hl' ⊢;have hN:=Aa hN;have hi8:(prog.info? 38).map (·.size)=some 8:=kR;go_enter func15,ntmps15;go_wp2_with fail;go_loopw [5] (fun i wr=>∃ k:Nat,k<=N/\i=↑k/\Hid (Below w w wr)) (fun i _=>N - (ZG i).toNat);case atStart=>exact⟨0,Az _,rfl,Aa (Ac _ _)⟩
 case round =>
  obtain⟨k,hk,rfl,hBr⟩:=hrel;by_cases hlt:k<N
  ·obtain⟨b,off,rfl,hbl,kj⟩:=hne.out (by intro h;have:=hN.out;simp [h] at this;omega);obtain⟨b',off',rfl,gV,hcells'⟩:=hne'.out (by intro h;have:=hN.out;simp [h] at this;omega);obtain⟨y,hy⟩:∃ y,l[k]?=some y:=⟨_,Ad (by rw [hN.out];exact hlt)⟩
   obtain⟨sy,hc,hat⟩:=kj k y hy;obtain⟨sy',hc',hat'⟩:=hcells' k y hy;have hrg:wr.rangeAt b (off+k*8) (Al y sy):=fun j u hj=>(hBr.out.cell (p:=⟨b,off+k*8+j,none⟩) hbl).trans (hc j u hj);have vZ:wr.rangeAt b' (off'+k*8) (Al y sy'):=fun j u hj=>(hBr.out.cell (p:=⟨b',off'+k*8+j,none⟩) gV).trans (hc' j u hj);have F:=Aa fun (W':ZB) (hb:Below wr wr W')=>Te y sy sy' W' ((hat.raw.below (hBr.out.trans (hb.mono hBr.out.size)) nR).mono (Af hBr.out.size hb.size)) ((hat'.raw.below (hBr.out.trans (hb.mono hBr.out.size)) nR).mono (Af hBr.out.size hb.size));have hl1:(prog.info? 38).map (·.size)=some (Al y sy).length:=hi8;have hl2:(prog.info? 38).map (·.size)=some (Al y sy').length:=hi8;clear kj hcells' hc hc' hat hat' hy;generalize Al y sy=C at *;generalize Al y sy'=C' at *;have z0:(0:Int)<=(k:Int):=oM;have zk:((k:Int)).toNat=k:=oM;have hk':(k:Int)<(N:Int):=oM;have hs3:b<wr.heap.size:=Ae hbl hBr.out.size;have hs4:b'<wr.heap.size:=Ae gV hBr.out.size;have SS:=Aa fun (W':ZB) (hb:Below wr wr W')=>(⟨A6 hrg hb hs3,A6 vZ hb hs4⟩:W'.rangeAt b (off+k*8) C/\W'.rangeAt b' (off'+k*8) C')
   have hD:Below wr wr wr.drew:=(Ac _ wr).drew;clear hrg vZ;go_wp2_with fail;refine Ed (S:=(fun W'=>W'.rangeAt b (off+k*8) C/\W'.rangeAt b' (off'+k*8) C')) kR (SS.out _ hD) fun kz=>?_;refine tj 0 ?_;push_cast;refine tj 1 ?_;push_cast;refine tj 2 ?_;push_cast;refine Ir (i:=3) (v:=.agg C.toArray) rfl kR kR kR (fun _ _ _ h=>h) ?_ kz ?_;·exact yieldsIf_load_mid rF _ _ rfl _ _ rfl C _ (fun W hSw=>hSw.1) underlying38 rfl hl1
   push_cast;refine tj 4 ?_;push_cast;refine tj 5 ?_;push_cast;refine tj 6 ?_;push_cast;refine Ir (i:=7) (v:=.agg C'.toArray) rfl kR kR kR (fun _ _ _ h=>h) ?_ kz ?_;·exact yieldsIf_load_mid rF _ _ rfl _ _ rfl C' _ (fun W hSw=>hSw.2) underlying38 rfl hl2
   push_cast;refine rk 8 rfl fun K hK=>?_;go_simp;refine CmZ (F.out _ hD) fun w2 hb2=>?_;have hE:Below wr wr w2:=hD.trans (hb2.mono hD.size);go_wp2_with fail;refine hK.out _ _ (SS.out _ hE) fun kz=>?_;clear hK K;push_cast;refine tj 9 ?_;push_cast;refine Dy kR ?_ _;have hB2:Hid (Below w w w2):=Aa (hBr.out.trans (hE.mono hBr.out.size));clear F SS;go_wp2;go_roundw;case rel=>exact⟨k+1,oM,by go_num,hB2⟩
   case measure=>simp [ZG];omega
  ·exact FD97
theorem I17 (a:Nat) (c:UInt8):ZH ((a:Int)<=(c.toNat:Int))=ZH (a<=c.toNat):=sM
theorem I18 (a:Nat) (c:UInt8):ZH ((c.toNat:Int)<=(a:Int))=ZH (c.toNat<=a):=sM
theorem Ov (c:UInt8) (w:ZB):ZE prog 216 #[.int .u8 c.toNat] w (Ret w (.bool (CH.letterB c))):=by
 have e:CH.letterB c=(ZH ((97:Int)<=(c.toNat:Int))&&ZH ((c.toNat:Int)<=122)||ZH ((65:Int)<=(c.toNat:Int))&&ZH ((c.toNat:Int)<=90)):=by unfold CH.letterB;rw [<- I17 97,<- I18 122,<- I17 65,<- I18 90];rfl
 rw [e];clear e;generalize e1:ZH ((97:Int)<=(c.toNat:Int))=b1;generalize e2:ZH ((c.toNat:Int)<=122)=b2;generalize e3:ZH ((65:Int)<=(c.toNat:Int))=b3;generalize e4:ZH ((c.toNat:Int)<=90)=b4;cases b1 <;> cases b2 <;> cases b3 <;> cases b4;all_goals go_enter func216,ntmps216;go_wp2;go_ret;exact⟨rfl,Ac _ _⟩
theorem Ch5 (c:UInt8) (w:ZB):ZE prog 272 #[.int .u8 c.toNat] w (Ret w (.bool (ZH (48<=c.toNat)&&ZH (c.toNat<=57)))):=by
 have e:(ZH (48<=c.toNat)&&ZH (c.toNat<=57))=(ZH ((48:Int)<=(c.toNat:Int))&&ZH ((c.toNat:Int)<=57)):=by rw [<- I17 48,<- I18 57];rfl
 rw [e];clear e;generalize e1:ZH ((48:Int)<=(c.toNat:Int))=b1;generalize e2:ZH ((c.toNat:Int)<=57)=b2;cases b1 <;> cases b2;all_goals go_enter func272,ntmps272;go_wp2;go_ret;exact⟨rfl,Ac _ _⟩
theorem E6a (n:Int) (w:ZB):ZE prog 262 #[↑n] w (Ret w (.bool (aW n))):=by unfold aW;generalize e1:ZH (0<=n)=b1;generalize e2:ZH (n<=144001439)=b2;cases b1 <;> cases b2;all_goals go_enter func262,ntmps262;go_wp2;go_ret;exact⟨rfl,Ac _ _⟩
theorem Exp (c:UInt8) (w:ZB):ZE prog 215 #[.int .u8 c.toNat] w (Ret w (.bool (CH.tailB c))):=by
 have L:=Aa fun (W:ZB)=>Ov c W;have D:=Aa fun (W:ZB)=>Ch5 c W;have e3:(c==95)=((c.toNat:Int)==95):=by rw [Es,Eb,Eb,<- UInt8.toNat_inj];show c.toNat=95↔_;omega
 unfold CH.tailB;rw [e3];clear e3;generalize CH.letterB c=b1 at *;generalize (ZH (48<=c.toNat)&&ZH (c.toNat<=57))=b2 at *;generalize e3:((c.toNat:Int)==95)=b3;cases b1 with
 |true =>go_enter func215,ntmps215;go_wp2_with fail;refine CmZ (L.out w) fun w1 hb1=>?_;exact FD39
 |false =>
  cases b2 with
  |true =>go_enter func215,ntmps215;go_wp2_with fail;refine CmZ (L.out w) fun w1 hb1=>?_;go_wp2_with fail;refine CmZ (D.out w1) fun w2 hb2=>?_;have hB:=hb1.trans (hb2.mono hb1.size);go_wp2;go_ret;exact⟨rfl,hB⟩
  |false =>cases b3;all_goals go_enter func215,ntmps215;go_wp2_with fail;refine CmZ (L.out w) fun w1 hb1=>?_;go_wp2_with fail;refine CmZ (D.out w1) fun w2 hb2=>?_;have hB:=hb1.trans (hb2.mono hb1.size);go_wp2;go_ret;exact⟨rfl,hB⟩
theorem I12 {k:Nat} {ch:UInt8} (hk:s[k]?=some ch) (h:CH.tailB ch=false):CH.isName s=false:=by
 unfold CH.isName;split;·rfl
 ·rename_i c l;have hl:CH.letterB ch=false:=by unfold CH.tailB at h;exact (Gt.1 h).1
  rcases k with _|k;·simp only [Fv,Fe] at hk;rw [hk,hl];rfl
  ·simp only [Fz] at hk;have:l.all CH.tailB=false:=J9.2 ⟨ch,Ap hk,by simp [h]⟩;rw [this,Ee];rfl
theorem I13 {c:UInt8} {l:Q00} (h:(c::l).all CH.tailB=true):CH.isName (c::l)=(ZH ((c::l).length<=24)&&CH.letterB c):=by show (CH.letterB c&&l.all CH.tailB&&ZH ((c::l).length<=24))=_;rw [J7,Ba] at h;rw [h.2,Jd,Bool.and_comm]
theorem Ff (s:Q00) (w:ZB) (hs:s.length<=9223372036854775807):ZE prog 136 #[↑s] w (Ret w (.bool (CH.isName s))):=by
 obtain⟨R,hR⟩:∃ R,Hid (CH.isName s=R):=⟨_,Aa rfl⟩
 rw [hR.out];have W:=Aa fun (c:UInt8) (W:ZB)=>Exp c W;have L:=Aa fun (c:UInt8) (W:ZB)=>Ov c W;go_enter func136,ntmps136;go_wp2_with fail;go_loopw [3] (fun i wr=>∃ k:Nat,k<=s.length/\i=↑k/\Hid ((s.take k).all CH.tailB=true)/\Hid (Below w w wr)) (fun i _=>s.length - (ZG i).toNat);case atStart=>exact⟨0,Az _,rfl,Aa rfl,Aa (Ac _ _)⟩
 case round =>
  obtain⟨k,hk,rfl,hI,hB⟩:=hrel;by_cases hlt:k<s.length
  ·obtain⟨ch,hch⟩:∃ ch,s[k]?=some ch:=⟨_,Ad hlt⟩
   have hgk:=Hj s k hlt ch hch;have hlt':(k:Int)<(s.length:Int):=oM;have hI':CH.tailB ch=true->Hid ((s.take (k+1)).all CH.tailB=true):=fun ht=>Aa (by rw [D7,hch,Gf,Jg,hI.out,a_Bool_true_and,J7,Ns,ht];rfl);have hbad:CH.tailB ch=false->R=false:=fun ht=>by rw [<- hR.out];exact I12 hch ht
   replace hch:=Aa hch;have W1:=Aa (W.out ch wr);generalize CH.tailB ch=tb at *;cases tb with
   |true =>
    have hI2:=hI' rfl;clear hI' hbad hI;go_wp2_with fail;refine CmZ W1.out fun w1 hb1=>?_;have hB1:=Aa (hB.out.trans (hb1.mono hB.out.size));go_wp2;go_roundw;case rel=>exact⟨k+1,oM,by go_num,hI2,hB1⟩
    case measure=>simp [ZG];omega
   |false =>have hb:=hbad rfl;clear hI' hbad hI;go_wp2_with fail;refine CmZ W1.out fun w1 hb1=>?_;have hB1:=Aa (hB.out.trans (hb1.mono hB.out.size));go_wp2;go_ret;subst hb;exact⟨rfl,hB1.out⟩
  ·obtain rfl:k=s.length:=oM;have hall:=hI.out;rw [Dn] at hall;cases s with
   |nil =>
    have hb:R=false:=by rw [<- hR.out];rfl
    go_wp2;go_ret;subst hb;exact⟨rfl,hB.out⟩
   |cons c l =>
    have hb:(ZH ((c::l).length<=24)&&CH.letterB c)=R:=by rw [<- hR.out,I13 hall]
    have hp:(0:Int)<(l.length:Int)+1:=oM;have hg0:=Hj (c::l) 0 sM c rfl;by_cases h24:(c::l).length<=24;·have q:ZH ((l.length:Int)+1<=24)=true:=Am (by rw [A8] at h24;omega);rw [Am h24,a_Bool_true_and] at hb;have L1:=Aa (L.out c wr);rw [hb] at L1;replace hb:=Aa hb;clear hI hall;go_wp2_with fail;refine CmZ L1.out fun w1 hb1=>?_;exact FD161
    ·have q:ZH ((l.length:Int)+1<=24)=false:=Ak (by rw [A8] at h24;omega);rw [Ak h24,Gi] at hb;clear hI hall;subst hb;exact FD112
attribute [local irreducible] wpQuiet
theorem U4 (d:Nat) (h:d<10):(ByteArray.mk #[48,49,50,51,52,53,54,55,56,57]).extract d (d+1)=⟨[UInt8.ofNat (48+d)].toArray⟩:=by
 have:∀ d:Fin 10,(ByteArray.mk #[48,49,50,51,52,53,54,55,56,57]).extract d.val (d.val+1)=⟨[UInt8.ofNat (48+d.val)].toArray⟩:=by decide +kernel
 exact this ⟨d,h⟩
theorem I48 (m:Nat):Int.tmod (m:Int) 10=((m % 10:Nat):Int):=by rw [Int.tmod_eq_emod_of_nonneg oM];omega
theorem I49 (m:Nat):Int.tdiv (m:Int) 10=((m / 10:Nat):Int):=by rw [Int.tdiv_eq_ediv_of_nonneg oM];omega
def pre (m:Nat):Q00:=if m=0 then [] else Lib.decDigits m
theorem Fm8 (m:Nat) (h:0<m):Lib.decDigits m=pre (m / 10)++[UInt8.ofNat (48+m % 10)]:=by
 unfold pre;rw [Lib.decDigits];by_cases h10:m<10;·rw [dif_pos h10,Au oM,Na h10];rfl
 ·rw [dif_neg h10,Ai oM]
theorem Yx (m:Nat):Lib.decDigits m=pre (m / 10)++[UInt8.ofNat (48+m % 10)]:=by
 rcases Nat.eq_zero_or_pos m with h|h;·subst h;rw [Lib.decDigits];rfl
 ·exact Fm8 m h
theorem Z9 (n:Nat) (w:ZB) (hn:n<9223372036854775808) : ZE prog 197 #[.int .u64 n] w (Ret w (.string ⟨(Lib.decDigits n).toArray⟩)):=by
 have hlen:(Lib.decDigits n).length<=20:=by rw [Lib.decDigits_length];exact Lib.nDigits_le20 n oM
 have hst:=Yx n;obtain⟨R,hR⟩:∃ R,Lib.decDigits n=R:=⟨_,rfl⟩
 rw [hR] at hlen hst ⊢;have m1:=I48 n;have m2:=I49 n;have d1:n % 10<10:=J3 _ oM;have d2:n / 10<9223372036854775808:=oM;have hsl:=U4 (n % 10) d1;generalize UInt8.ofNat (48+n % 10)=c at *;generalize n % 10=d at *;generalize n / 10=q at *;replace hst:=Aa hst;replace hlen:=Aa hlen;clear hR;go_enter func197,ntmps197;go_wp2;go_loopw [0,3] (fun nv sv wr=>∃ (m:Nat) (t:Q00),m<9223372036854775808/\nv=.int .u64 m/\sv=↑t/\t.length<=20/\Hid (R=pre m++t)/\wr=w) (fun nv _ _=>(ZG nv).toNat);case atStart=>exact⟨q,[c],d2,rfl,rfl,sM,hst,rfl⟩
 case round =>
  clear m1 m2 hsl hst;obtain⟨m,t,hm,rfl,rfl,htl,hR,rfl⟩:=hrel;by_cases h0:m=0
  ·subst h0;have hRt:R=t:=by rw [hR.out];rfl
   subst hRt;clear hR;exact FD30
  ·have hst:R=pre (m / 10)++(UInt8.ofNat (48+m % 10)::t):=by have:=hR.out;unfold pre at this;rw [Ai h0,Fm8 m oM] at this;rw [this];simp
   have hl2:=congrArg List.length hst;rw [Ah,A8] at hl2;have hl3:t.length+1<=20:=by have:=hlen.out;omega
   have m1:=I48 m;have m2:=I49 m;have d1:m % 10<10:=J3 _ oM;have d2:m / 10<m:=oM;have hsl:=U4 (m % 10) d1;have hp:(0:Int)<(m:Int):=oM;have hq:¬ 9223372036854775807<1+t.length:=oM;generalize UInt8.ofNat (48+m % 10)=c at *;generalize m % 10=d at *;generalize m / 10=q at *;replace hst:=Aa hst;clear hR hl2;go_wp2;go_roundw;case rel=>exact⟨q,c::t,oM,rfl,by rw [show (⟨#[c]⟩:ByteArray)=⟨[c].toArray⟩ from rfl,bytes_append];rfl,hl3,hst,by first|rfl|trivial⟩
   case measure=>simp [ZG];omega
theorem De (n:Int) (w:ZB) (h0:0<=n) (h1:n<=9223372036854775807) : ZE prog 125 #[↑n] w (Ret w (.string ⟨(ZK n).toArray⟩)):=by
 obtain⟨m,rfl⟩:=Int.eq_ofNat_of_zero_le h0;have e:ZK (m:Int)=Lib.decDigits m:=by unfold ZK;rw [if_neg oM];simp
 rw [e];have D:=Aa (Z9 m w oM);have q:ZH ((m:Int)<0)=false:=Ak oM;have q2:IntKind.u64.wrap (m:Int)=(m:Int):=by rw [Iw];omega
 generalize Lib.decDigits m=ds at *;clear e;go_enter func125,ntmps125;exact FD168
def dG (n:Int):Q00:=if n = -1 then [45] else ZK n
theorem B9 (n:Int) (w:ZB) (h0:-1<=n) (h1:n<=9223372036854775807) : ZE prog 70 #[↑n] w (Ret w (.string ⟨(dG n).toArray⟩)):=by
 unfold dG;by_cases hn:n = -1;·subst hn;rw [Au rfl];go_enter func70,ntmps70;exact FD30
 ·rw [Ai hn];have D:=Aa (De n w oM h1);have q:(n==-1)=false:=by simpa using hn
  generalize ZK n=ds at *;go_enter func70,ntmps70;exact FD168
theorem Cbv (k:Int) (w:ZB):ZE prog 264 #[↑k] w (fun e w'=>Below w w w'/\∃ t:Q00,e=.returned ↑t/\(1<=k/\k<=4->t=CH.title k++[58])):=by
 by_cases h1:k=1;·subst h1;exact FD105
 ·have e1:(k==1)=false:=by simpa using h1
  by_cases h2:k=2;·subst h2;exact FD105
  ·have e2:(k==2)=false:=by simpa using h2
   by_cases h3:k=3;·subst h3;exact FD105
   ·have e3:(k==3)=false:=by simpa using h3
    go_enter func264,ntmps264;go_wp2;go_ret;refine⟨Ac _ _,_,rfl,fun h=>?_⟩;obtain rfl:k=4:=oM;rfl
theorem Hwl (s:Q00) (w:ZB):ZE prog 334 #[↑s] w (Ret w (.bool (CH.isKey s))):=by
 by_cases hk:s∈[[111,114],[97,110,100],[110,111,116],[116,114,117,101],[102,97,108,115,101]]
 ·have e:CH.isKey s=true:=by unfold CH.isKey;exact List.contains_iff_mem.2 hk
  rw [e];clear e;simp only [Bl,Ci,Et] at hk;rcases hk with rfl|rfl|rfl|rfl|rfl;all_goals go_enter func334,ntmps334;go_wp2;go_ret;exact⟨rfl,Ac _ _⟩
 ·have e:CH.isKey s=false:=by unfold CH.isKey;rw [<- Gz];exact fun h=>hk (List.contains_iff_mem.1 h)
  rw [e];clear e;simp only [Bl,Ci,Et,Lu] at hk;obtain⟨k1,k2,k3,k4,k5⟩:=hk;go_enter func334,ntmps334;go_wp2;have q1:(s==[111,114])=false:=by simpa using k1
  have q2:(s==[97,110,100])=false:=by simpa using k2
  have q3:(s==[110,111,116])=false:=by simpa using k3
  have q4:(s==[116,114,117,101])=false:=by simpa using k4
  have q5:(s==[102,97,108,115,101])=false:=by simpa using k5
  rw [q1,q2,q3,q4,q5];go_ret;exact⟨rfl,Ac _ _⟩
theorem Tl (n:Int) (w:ZB):ZE prog 210 #[↑n] w (Ret w (.bool (aW n))):=by unfold aW;generalize e1:ZH (0<=n)=b1;generalize e2:ZH (n<=144001439)=b2;cases b1 <;> cases b2;all_goals go_enter func210,ntmps210;go_wp2;go_ret;exact⟨rfl,Ac _ _⟩
theorem Xr (n:Int) (w:ZB):ZE prog 269 #[↑n] w (Ret w (.bool (CH.within n 100000))):=by unfold CH.within;generalize e1:ZH (0<=n)=b1;generalize e2:ZH (n<=100000)=b2;cases b1 <;> cases b2;all_goals go_enter func269,ntmps269;go_wp2;go_ret;exact⟨rfl,Ac _ _⟩
def ig (s:Q00):Q00:=if s==[] then [45] else s
theorem Tp (s:Q00) (w:ZB):ZE prog 73 #[↑s] w (Ret w (.string ⟨(ig s).toArray⟩)):=by
 by_cases h:s=[]
 ·subst h;go_enter func73,ntmps73;exact FD30
 ·have hb:(s==[])=false:=by simpa using h
  have he:ig s=s:=by unfold ig;rw [hb];rfl
  rw [he];have hs:((⟨s.toArray⟩:ByteArray)==⟨#[]⟩)=false:=by rw [show (#[]:Array UInt8)=([]:Q00).toArray from rfl,Cr];exact hb
  go_enter func73,ntmps73;exact FD30
theorem Sn (h:CH.isName s=true):1<=s.length/\s.length<=24/\∀ k ch,s[k]?=some ch->CH.tailB ch=true/\(k=0->CH.letterB ch=true):=by
 unfold CH.isName at h;split at h;·cases h
 ·rename_i c l;simp only [Ba,Bq] at h;obtain⟨⟨h1,h2⟩,h3⟩:=h;have ht:CH.tailB c=true:=by unfold CH.tailB;rw [h1];rfl
  refine⟨sM,h3,fun k ch hk=>?_⟩;cases k with
  |zero =>simp only [Fv,Fe] at hk;subst hk;exact⟨ht,fun _=>h1⟩
  |succ k =>simp only [Fz] at hk;exact⟨Df.1 h2 ch (Ap hk),fun e=>by omega⟩
theorem Gr (s:Q00) (w:ZB) (hs:s.length<=4611686018427387904):ZE prog 208 #[↑s] w (Ret w (.bool (CH.isName s))):=by
 have q0:∀ b,(s != []&&ZH (s.length<=24))=b->CH.isName s=(CH.upTo CH.letterB CH.tailB s s.length&&b):=fun b hb=>by rw [CH.isName_eq,hb]
 rcases (oM:s.length=0\/24<s.length\/1<=s.length/\s.length<=24) with h|h|⟨p1,p2⟩;·have hr:=q0 false (by rw [Bo.1 h];rfl);rw [Ee] at hr;have q1:ZH ((s.length:Int)<1)=true:=Am oM;rw [hr];clear hr q0;go_enter func208,ntmps208;exact FD30
 ·have hr:=q0 false (by rw [Ak oM,Ee]);rw [Ee] at hr;have q1:ZH ((s.length:Int)<1)=false:=Ak oM;have q2:ZH ((24:Int)<(s.length:Int))=true:=Am oM;rw [hr];clear hr q0;go_enter func208,ntmps208;exact FD30
 have q1:ZH ((s.length:Int)<1)=false:=Ak oM;have q2:ZH ((24:Int)<(s.length:Int))=false:=Ak oM;have hr:=q0 true (by rw [Am p2,Jd,bne_iff_ne];rintro rfl;simp at p1);rw [Jd] at hr;have hr:=Aa hr;generalize CH.isName s=R at hr ⊢;clear q0 hs;go_enter func208,ntmps208;go_wp2_with fail;go_loopw [3] (fun i wr=>∃ k:Nat,k<=s.length/\i=↑k/\Hid (CH.upTo CH.letterB CH.tailB s k=true)/\wr=w) (fun i _=>s.length - (ZG i).toNat);case atStart=>exact⟨0,Az _,rfl,Aa (CH.upTo_zero _ _ _),rfl⟩
 case round =>
  obtain⟨k,hk,rfl,hu,rfl⟩:=hrel;by_cases hlt:k<s.length
  ·obtain⟨ch,hch⟩:∃ ch,s[k]?=some ch:=⟨_,Ad hlt⟩
   have hgk:=Hj s k hlt ch hch;have Hch:=Aa hch;clear hch;have hcb:=Fb ch;have good:∀ b:Bool,(if k=0 then CH.letterB ch else CH.tailB ch)=b->(b=true->CH.upTo CH.letterB CH.tailB s (k+1)=true)/\(b=false->R=false):=fun b hb =>⟨fun h=>by rw [CH.upTo_succ _ _ _ _ _ Hch.out,hu.out,hb,h];rfl,fun h=>by rw [hr.out,CH.upTo_false _ _ _ _ _ Hch.out (hb.trans h)]⟩
   have G:=Aa good;clear good;by_cases hk0:k=0
   ·subst hk0;rcases (oM:(0<=ch.toNat/\ch.toNat<=64)\/(65<=ch.toNat/\ch.toNat<=90)\/(91<=ch.toNat/\ch.toNat<=96)\/(97<=ch.toNat/\ch.toNat<=122)\/(123<=ch.toNat/\ch.toNat<=255)) with h|h|h|h|h;all_goals
     cases g97:ZH ((97:Int)<=(ch.toNat:Int)) <;> try (simp at g97;omega)
     cases l122:ZH ((ch.toNat:Int)<=(122:Int)) <;> try (simp at l122;omega)
     cases g65:ZH ((65:Int)<=(ch.toNat:Int)) <;> try (simp at g65;omega)
     cases l90:ZH ((ch.toNat:Int)<=(90:Int)) <;> try (simp at l90;omega)
     cases hv:CH.letterB ch <;> try (simp [CH.letterB,CH.tailB,CH.beq_toNat] at hv;omega)
     first
     |(
       replace hv:=Aa ((G.out _ ((Au rfl).trans hv)).1 rfl)
       go_wp2
       go_roundw
       case rel=>exact⟨0+1,oM,by go_num,hv,trivial⟩
       case measure=>simp [ZG];omega)
     |(
       replace hv:=Aa ((G.out _ ((Au rfl).trans hv)).2 rfl)
       go_wp2
       go_ret
       exact⟨by rw [hv.out];rfl,Ac _ _⟩)
   ·have z0:((k:Int)==0)=false:=by simp;omega
    rcases (oM:(0<=ch.toNat/\ch.toNat<=47)\/(48<=ch.toNat/\ch.toNat<=57)\/(58<=ch.toNat/\ch.toNat<=64)\/(65<=ch.toNat/\ch.toNat<=90)\/(91<=ch.toNat/\ch.toNat<=94)\/(95<=ch.toNat/\ch.toNat<=95)\/(96<=ch.toNat/\ch.toNat<=96)\/(97<=ch.toNat/\ch.toNat<=122)\/(123<=ch.toNat/\ch.toNat<=255)) with h|h|h|h|h|h|h|h|h;all_goals
     cases g97:ZH ((97:Int)<=(ch.toNat:Int)) <;> try (simp at g97;omega)
     cases l122:ZH ((ch.toNat:Int)<=(122:Int)) <;> try (simp at l122;omega)
     cases g65:ZH ((65:Int)<=(ch.toNat:Int)) <;> try (simp at g65;omega)
     cases l90:ZH ((ch.toNat:Int)<=(90:Int)) <;> try (simp at l90;omega)
     cases n95:(ch.toNat:Int) != (95:Int) <;> try (simp at n95;omega)
     cases l48:ZH ((ch.toNat:Int)<(48:Int)) <;> try (simp at l48;omega)
     cases g57:ZH ((57:Int)<(ch.toNat:Int)) <;> try (simp at g57;omega)
     cases hv:CH.tailB ch <;> try (simp [CH.letterB,CH.tailB,CH.beq_toNat] at hv;omega)
     first
     |(
       replace hv:=Aa ((G.out _ ((Ai hk0).trans hv)).1 rfl)
       go_wp2
       go_roundw
       case rel=>exact⟨k+1,oM,by go_num,hv,trivial⟩
       case measure=>simp [ZG];omega)
     |(
       replace hv:=Aa ((G.out _ ((Ai hk0).trans hv)).2 rfl)
       go_wp2
       go_ret
       exact⟨by rw [hv.out];rfl,Ac _ _⟩)
  ·obtain rfl:k=s.length:=oM;go_wp2;go_ret;exact⟨by rw [hr.out,hu.out];rfl,Ac _ _⟩
theorem X9:∀ (l:List Q00),dY l=true->∀ (j k:Nat) (x y:Q00),l[j]?=some x->l[k]?=some y->j<k->(x==y)=false
 |[],_,j,k,x,y,hj,_,_=>by simp at hj
 |z::l,h,0,k+1,x,y,hj,hk,_=>by
  simp only [dY,Ba,F9,Fv,Fz,Fe] at h hj hk
  subst hj
  rw [<- Gz,Eb]
  rintro rfl
  have:=h.1
  rw [Je,Dc] at this
  exact this (Ap hk)
 |z::l,h,j+1,k+1,x,y,hj,hk,hlt=>by
  simp only [dY,Ba,Fz] at h hj hk
  exact X9 l h.2 j k x y hj hk oM
theorem jS {k:Nat} (h:aN (ls.take k)=false):aN ls=false:=by rw [<- Gz] at h ⊢;refine fun e=>h ?_;rw [<- D8 k ls] at e;exact kN _ _ e
theorem Pm {j:Nat} {x l:Q00} (hx:ls[j]?=some x):(ls.take (j+1)).contains l=((ls.take j).contains l||x==l):=by rw [D7,hx,Gf,List.contains_eq_any_beq,List.contains_eq_any_beq,List.any_append,List.any_cons,List.any_nil,Bool.or_false,Bool.beq_comm]
theorem Ox (v:ZC) (ls:List Q00) (most:Int) (w:ZB) (hv:Strs w w v ls) (hs:∀ x∈ls,x.length<=4611686018427387904) : ZE prog 209 #[v,↑most] w (Ret w (.bool (aN ls&&ZH ((ls.length:Int)<=most)))):=by
 have HN:=Aa fun (k:Nat) (x:Q00) (hk:ls[k]?=some x) (W:ZB)=>Gr x W (hs x (Ap hk));obtain⟨R,hR⟩:∃ R,(aN ls&&ZH ((ls.length:Int)<=most))=R:=⟨_,rfl⟩
 have HF:=Aa fun (k:Nat) (x:Q00) (hk:ls[k]?=some x) (b:Bool) (hb:(aN (ls.take k)&&(CH.isName x&&!(ls.take k).contains x))=b) =>
  (⟨fun e=>by rw [D7,hk,Gf,iY,hb,e],fun e=>by rw [<- hR,jS (k:=k+1) (by rw [D7,hk,Gf,iY,hb,e])];rfl⟩ :
   (b=true->aN (ls.take (k+1))=true)/\(b=false->R=false))
 have HE:=Aa fun (k:Nat) (hk:ls.length<=k) (h:aN (ls.take k)=true)=>(by rw [<- hR,<- Bz hk,h];simp [Bz hk]:ZH ((ls.length:Int)<=most)=R)
 rw [hR];clear hR hs;obtain⟨a,cap,rfl,hl,hcap,hne⟩:=hv;replace hne:=Aa hne;obtain⟨N,hN⟩:∃ N,ls.length=N:=⟨_,rfl⟩
 rw [hN] at hl HE ⊢;replace hN:=Aa hN;go_enter func209,ntmps209;go_wp2_with fail;go_loopw [5] (fun i wr=>∃ k:Nat,k<=N/\i=↑k/\Hid (aN (ls.take k)=true)/\Hid (Below w w wr)) (fun i _=>N - (ZG i).toNat);case atStart=>exact⟨0,Az _,rfl,Aa rfl,Aa (Ac _ _)⟩
 case round =>
  obtain⟨k,hk,rfl,hT,hB⟩:=hrel;by_cases hlt:k<N
  ·obtain⟨b,off,rfl,hbl,kj⟩:=hne.out (by intro h;have:=hN.out;simp [h] at this;omega);obtain⟨l,hl'⟩:∃ l,ls[k]?=some l:=⟨_,Ad (by rw [hN.out];exact hlt)⟩
   have e1:wr.cell? ⟨b,off+k,none⟩=some ↑l:=(hB.out.cell (p:=⟨b,off+k,none⟩) hbl).trans (kj k l hl');have z0:(0:Int)<=(k:Int):=oM;have zk:((k:Int)).toNat=k:=oM;have hk':(k:Int)<(N:Int):=oM;have C:=Aa (HN.out k l hl');replace kj:=Aa kj;have HFk:=Aa (HF.out k l hl');rw [hT.out,a_Bool_true_and] at HFk;replace hl':=Aa hl';cases hb:CH.isName l with
   |false =>rw [hb] at C HFk;have hr:=Aa ((HFk.out _ rfl).2 rfl);replace C:=Aa C.out;clear HFk;go_wp2_with fail;refine CmZ (C.out _) fun w1 hb1=>?_;have hB1:=Aa (hB.out.trans (hb1.mono hB.out.size));clear C e1 hB;go_wp2;go_ret;exact⟨by rw [hr.out];rfl,hB1.out⟩
   |true =>
   rw [hb] at C HFk;rw [a_Bool_true_and] at HFk;replace HFk:=Aa HFk.out;replace C:=Aa C.out;go_wp2_with fail;refine CmZ (C.out _) fun w1 hb1=>?_;have hB1:=Aa (hB.out.trans (hb1.mono hB.out.size));clear C e1 hB;go_wp2_with fail;go_loopw [6] (fun i wr=>∃ j:Nat,j<=k/\i=↑j/\Hid ((ls.take j).contains l=false)/\Hid (Below w w wr)) (fun i _=>k - (ZG i).toNat);case atStart=>exact⟨0,Az _,rfl,Aa rfl,hB1⟩
   case round =>
    obtain⟨j,hj,rfl,hC,hB⟩:=hrel;by_cases hlj:j<k
    ·obtain⟨x,hx⟩:∃ x,ls[j]?=some x:=⟨_,Ad (by rw [hN.out];omega)⟩
     have e1:=(hB.out.cell (p:=⟨b,off+j,none⟩) hbl).trans (kj.out j x hx);have e2:=(hB.out.cell (p:=⟨b,off+k,none⟩) hbl).trans (kj.out k l hl'.out);have g1:=@Ag _ _ _ e1;have g2:=@Ag _ _ _ e2;have hCx:=Pm (l:=l) hx;rw [hC.out,Nh] at hCx;replace hCx:=Aa hCx;have y0:(0:Int)<=(j:Int):=oM;have yk:((j:Int)).toNat=j:=oM;have hj':(j:Int)<(N:Int):=oM;have hin:x=l->R=false:=fun e=>by
      refine (HFk.out _ rfl).2 ?_;have hm:(ls.take k).contains l=true:=by rw [Je,Bq,<- e];exact Ap (i:=j) (by rw [Hw hlj,hx])
      rw [hm];rfl
     replace hin:=Aa hin;clear hx;cases xM:x==l with
     |true =>
      have hr:=Aa (hin.out (eq_of_beq xM));have hxl:((⟨x.toArray⟩:ByteArray)==⟨l.toArray⟩)=true:=by rw [Cr];exact xM
      go_wp2_with fail;refine Ar kR kR ?_;repeat (quiet_step (fail))
      refine Bv ?_;intro wq hbq;replace hbq:=An hbq;clear g1 g2;have hB2:=Aa (hB.out.trans (hbq.mono hB.out.size));clear hbq e1 e2 hB;go_wp2;go_ret;exact⟨by rw [hr.out];rfl,hB2.out⟩
     |false =>
      have hxl:((⟨x.toArray⟩:ByteArray)==⟨l.toArray⟩)=false:=by rw [Cr];exact xM
      rw [xM] at hCx;replace hCx:=Aa hCx.out;go_wp2_with fail;refine Ar kR kR ?_;repeat (quiet_step (fail))
      refine Bv ?_;intro wq hbq;replace hbq:=An hbq;clear g1 g2;have hB2:=Aa (hB.out.trans (hbq.mono hB.out.size));clear hbq e1 e2 hB;go_wp2;go_roundw;case rel=>exact⟨j+1,oM,by go_num,hCx,hB2⟩
      case measure=>simp [ZG];omega
    ·obtain rfl:j=k:=oM;rw [hC.out] at HFk;have hT1:=Aa ((HFk.out _ rfl).1 rfl);clear HFk;go_wp2;go_roundw;case rel=>exact⟨j+1,oM,by go_num,hT1,hB⟩
     case measure=>simp [ZG];omega
  ·obtain rfl:k=N:=oM;have hr:=HE.out k nR hT.out;clear HE;go_wp2;go_ret;exact⟨by rw [<- hr];rfl,hB.out⟩
theorem Cp {w W:ZB} {C:List ZC} {T:TypeId} (hW:w.alloc (.cells C.toArray T)=W) (W':ZB) (hb:Below W W W'):∀ i u,C[i]?=some u->W'.cell? ⟨w,i,none⟩=some u:=by subst hW;have h1:=(hb.block w sM).trans (Aw w _);exact fun i u hi=>(Ab h1 i).trans (by simpa using hi)
theorem S5 (l:fF) (vm vp:ZC) (w:ZB) (h1:Strs w w vm l.measures) (h2:Strs w w vp l.aH) (hi:l.id.length<=4611686018427387904) (hs1:∀ x∈l.measures,x.length<=4611686018427387904) (hs2:∀ x∈l.aH,x.length<=4611686018427387904) : ZE prog 134 #[.agg (Br l vm vp).toArray] w (Ret w (.bool (aO l))):=by
 have hR:aO l=(CH.isName l.id&&(!ZH ((l.measures.length:Int)<1)&&((aN l.measures&&ZH ((l.measures.length:Int)<=12))&&((aN l.aH&&ZH ((l.aH.length:Int)<=60))&&(ZH (0<=l.quota)&&(ZH (l.quota<=1000000000)&&(ZH (0<=l.uses)&&(ZH (l.uses<=1000)&&(aW l.start&&(aW l.aF&&ZH (l.start<l.aF))))))))))):=by unfold aO CH.within aW;rw [Es];cases CH.isName l.id <;> cases aN l.measures <;> cases aN l.aH <;> simp;omega
 have hB0:=Aa fun o=>(Ac _ w).alloc nR o;have T0:=Aa fun (W:ZB)=>Gr l.id W hi;have T1:=Aa fun (W:ZB) (hb:Below w w W)=>Ox vm l.measures 12 W ((h1.below hb nR).mono hb.size) hs1;have T2:=Aa fun (W:ZB) (hb:Below w w W)=>Ox vp l.aH 60 W ((h2.below hb nR).mono hb.size) hs2;have I1:=Aa fun (W:ZB)=>Tl l.start W;have I2:=Aa fun (W:ZB)=>Tl l.aF W;obtain⟨_,_,rfl,_,_⟩:=h1.form;obtain⟨_,_,rfl,_,_⟩:=h2.form;clear h1 h2 hi hs1 hs2;rw [hR];clear hR;generalize CH.isName l.id=b0 at *;generalize (aN l.measures&&ZH ((l.measures.length:Int)<=12))=b2 at *;generalize (aN l.aH&&ZH ((l.aH.length:Int)<=60))=b3 at *;generalize aW l.start=b8 at *;generalize aW l.aF=b9 at *;generalize l.measures.length=n1 at *;generalize l.aH.length=n2 at *;dsimp only [Br,aA,aJ] at *;go_enter func134,ntmps134;go_wp2_with fail;have B:=hB0.out;generalize hWd:w.alloc _=W at *;have hBW:Below w w W:=by rw [<- hWd];exact B _
 have K:=Aa (Cp hWd);clear hWd hB0 B;refine CmZ (T0.out _) fun w1 hb1=>?_;have hB1:=hBW.trans (hb1.mono hBW.size);have c1:=K.out w1 hb1 1 _ rfl;clear T0;cases b0 with
 |false =>exact FD25
 |true =>
 cases q1:ZH ((n1:Int)<1) with
 |true =>go_wp2;go_ret;exact⟨by simp only [q1,Gi,a_Bool_true_and,Gy,Gv,Ee];rfl,hB1⟩
 |false =>
 go_wp2_with fail;refine CmZ (T1.out _ hB1) fun w2 hb2=>?_;have hB2:=hB1.trans (hb2.mono hB1.size);have hb2:=hb1.trans (hb2.mono hb1.size);have c2:=K.out w2 hb2 2 _ rfl;clear T1 c1;cases b2 with
 |false =>go_wp2;go_ret;exact⟨by simp only [q1,Gi,a_Bool_true_and,Gy,Gv,Ee];rfl,hB2⟩
 |true =>
 go_wp2_with fail;refine CmZ (T2.out _ hB2) fun w3 hb3=>?_;have hB3:=hB2.trans (hb3.mono hB2.size);have hb3:=hb2.trans (hb3.mono hb2.size);have c3:=K.out w3 hb3 3 _ rfl;have c4:=K.out w3 hb3 4 _ rfl;have c5:=K.out w3 hb3 5 _ rfl;clear T2 c2;cases b3 with
 |false =>go_wp2;go_ret;exact⟨by simp only [q1,Gi,a_Bool_true_and,Gy,Gv,Ee];rfl,hB3⟩
 |true =>
 cases q3:ZH (0<=l.quota) with
 |false =>go_wp2;go_ret;exact⟨by simp only [q1,q3,Gi,a_Bool_true_and,Gy,Gv,Ee];rfl,hB3⟩
 |true =>
 cases q4:ZH (l.quota<=1000000000) with
 |false =>go_wp2;go_ret;exact⟨by simp only [q1,q3,q4,Gi,a_Bool_true_and,Gy,Gv,Ee];rfl,hB3⟩
 |true =>
 cases q5:ZH (0<=l.uses) with
 |false =>go_wp2;go_ret;exact⟨by simp only [q1,q3,q4,q5,Gi,a_Bool_true_and,Gy,Gv,Ee];rfl,hB3⟩
 |true =>
 cases q6:ZH (l.uses<=1000) with
 |false =>go_wp2;go_ret;exact⟨by simp only [q1,q3,q4,q5,q6,Gi,a_Bool_true_and,Gy,Gv,Ee];rfl,hB3⟩
 |true =>
 go_wp2_with fail;refine CmZ (I1.out _) fun w4 hb4=>?_;have hB4:=hB3.trans (hb4.mono hB3.size);have hb4:=hb3.trans (hb4.mono hb3.size);have d6:=K.out w4 hb4 6 _ rfl;clear I1 c3 c4 c5;cases b8 with
 |false =>go_wp2;go_ret;exact⟨by simp only [q1,q3,q4,q5,q6,Gi,a_Bool_true_and,Gy,Gv,Ee];rfl,hB4⟩
 |true =>
 go_wp2_with fail;refine CmZ (I2.out _) fun w5 hb5=>?_;have hB5:=hB4.trans (hb5.mono hB4.size);have hb5:=hb4.trans (hb5.mono hb4.size);have e5:=K.out w5 hb5 5 _ rfl;have e6:=K.out w5 hb5 6 _ rfl;clear I2 K d6;cases b9 with
 |false =>go_wp2;go_ret;exact⟨by simp only [q1,q3,q4,q5,q6,Gi,a_Bool_true_and,Gy,Gv,Ee];rfl,hB5⟩
 |true =>
 cases q7:ZH (l.start<l.aF) <;>
  (go_wp2
   go_ret
   exact⟨by simp only [q1,q3,q4,q5,q6,q7,Gi,a_Bool_true_and,Gy,Gv,Ee];rfl,hB5⟩)
theorem Xo (l:fF) (vm vp:ZC) (w:ZB) (h1:Strs w w vm l.measures) (h2:Strs w w vp l.aH) (h:aO l=true) : ZE prog 134 #[.agg (Br l vm vp).toArray] w (Ret w (.bool true)):=by
 have h0:=h;unfold aO aN at h0;simp only [Ba,Df] at h0;have S:=fun (x:Q00) (e:CH.isName x=true)=>(by have:=(Sn e).2.1;omega:x.length<=4611686018427387904)
 have:=S5 l vm vp w h1 h2 (S _ (by simp_all)) (fun x hx=>S x (by simp_all)) (fun x hx=>S x (by simp_all));rwa [h] at this
theorem R9 (s:Q00) (i:Nat) (set:Q00) (w:ZB) (hs:s.length<=1000000) (hset:set.length<=1000) : ZE prog 359 #[↑s,↑i,↑set] w (Ret w (.bool (CH.isIn s i set))):=by
 by_cases hi:i<s.length
 ·obtain⟨ch,hch⟩:∃ ch,s[i]?=some ch:=⟨_,Ad hi⟩
  have e:CH.isIn s i set=set.contains ch:=by unfold CH.isIn;rw [hch]
  rw [e];clear e;have hgk:=Hj s i hi ch hch;clear hch;obtain⟨R,hR⟩:∃ R,Hid (set.contains ch=R):=⟨_,Aa rfl⟩
  rw [hR.out];obtain⟨N,hN⟩:∃ N,Hid (set.length=N):=⟨_,Aa rfl⟩
  have q0:ZH (s.length<=i)=false:=Ak oM;go_enter func359,ntmps359;go_wp2_with fail;go_loopw [7] (fun iv wr=>∃ k:Nat,k<=set.length/\iv=↑k/\Hid ((set.take k).contains ch=false)/\Hid (Below w w wr)) (fun iv _=>set.length - (ZG iv).toNat);case atStart=>exact⟨0,Az _,rfl,Aa sM,Aa (Ac _ _)⟩
  case round =>
   obtain⟨k,hk,rfl,hI,hB⟩:=hrel;by_cases hlt:k<set.length
   ·obtain⟨c2,hc2⟩:∃ c2,set[k]?=some c2:=⟨_,Ad hlt⟩
    have hgj:=Hj set k hlt c2 hc2;have hd:((c2.toNat:Int)==(ch.toNat:Int))=(ch==c2):=by
     rw [Es,Eb,Eb];constructor;·intro h;exact UInt8.toNat_inj.1 oM
     ·intro h;rw [h]
    have hsn:(set.take (k+1)).contains ch=(ch==c2):=by
     have e1:(set.take k++[c2]).contains ch=((set.take k).contains ch||ch==c2):=by rw [Es];simp
     rw [D7,hc2,Gf,e1,hI.out,Nh]
    have hyes:(ch==c2)=true->R=true:=fun h=>by rw [<- hR.out,List.contains_iff_mem,Eb.1 h];exact Ap hc2
    replace hsn:=Aa hsn;replace hyes:=Aa hyes;clear hI hc2;generalize (ch==c2)=b at *;cases b with
    |true =>
     obtain rfl:=hyes.out rfl;clear hyes hsn;go_wp2_with fail;refine Ar kR kR ?_;repeat (quiet_step (fail))
     refine Bv ?_;intro wq hbq;replace hbq:=An hbq;have hB2:=hB.out.trans (hbq.mono hB.out.size);go_wp2;go_ret;exact⟨rfl,hB2⟩
    |false =>
     clear hyes;go_wp2_with fail;refine Ar kR kR ?_;repeat (quiet_step (fail))
     refine Bv ?_;intro wq hbq;replace hbq:=An hbq;have hB2:=Aa (hB.out.trans (hbq.mono hB.out.size));go_wp2;go_roundw;case rel=>exact⟨k+1,oM,by go_num,hsn,hB2⟩
     case measure=>simp [ZG];omega
   ·obtain rfl:k=set.length:=oM;have hr:R=false:=by have:=hI.out;rw [Dn] at this;rw [<- hR.out,this]
    subst hr;clear hI;exact FD112
 ·have e:CH.isIn s i set=false:=by unfold CH.isIn;rw [List.getElem?_eq_none oM]
  rw [e];clear e;have q0:ZH ((s.length:Int)<=(i:Int))=true:=Am oM;go_enter func359,ntmps359;exact FD30
theorem Lk2 (s:Q00) (i j:Nat) (set:Q00):CH.isIn (s.drop i) j set=CH.isIn s (i+j) set:=by unfold CH.isIn;rw [Gu]
theorem Ggj:∀ n:Fin 256,(CH.smalls.contains (UInt8.ofNat n.val)||CH.smalls.contains (UInt8.ofNat n.val+32)&&ZH (65<=(UInt8.ofNat n.val).toNat)&&ZH ((UInt8.ofNat n.val).toNat<=90))=([97,98,99,100,101,102,103,104,105,106,107,108,109,110,111,112,113,114,115,116,117,118,119,120,121,122,65,66,67,68,69,70,71,72,73,74,75,76,77,78,79,80,81,82,83,84,85,86,87,88,89,90]:Q00).contains (UInt8.ofNat n.val):=by decide +kernel
theorem Cut (s:Q00) (i:Nat):eU (s.drop i)=CH.isIn s i [97,98,99,100,101,102,103,104,105,106,107,108,109,110,111,112,113,114,115,116,117,118,119,120,121,122,65,66,67,68,69,70,71,72,73,74,75,76,77,78,79,80,81,82,83,84,85,86,87,88,89,90]:=by
 unfold eU CH.isIn;rw [Gu,Ia];cases s[i]? with
 |none=>rfl
 |some c =>have:=Ggj ⟨c.toNat,Fb c⟩;simp only [UInt8.ofNat_toNat] at this;exact this
theorem Dup:∀ n:Fin 256,([97,105,117,101,111]:Q00).contains (UInt8.ofNat n.val)=true->([107,115,116,110,104,109,121,114,119,103,122,100,98,112]:Q00).contains (UInt8.ofNat n.val)=false:=by decide +kernel
theorem I16 {i:Nat} (h:CH.isIn s i [97,105,117,101,111]=true):CH.isIn s i [107,115,116,110,104,109,121,114,119,103,122,100,98,112]=false:=by
 unfold CH.isIn at *;cases hc:s[i]? with
 |none=>rfl
 |some c =>rw [hc] at h;have:=Dup ⟨c.toNat,Fb c⟩;simp only [UInt8.ofNat_toNat] at this;exact this h
theorem Kj8 (k:Int) (s:Q00) (i:Nat):CH.slen k (s.drop i) = if k=1 then (if CH.isIn s i CH.smalls then 1 else 0) else if k=2 then (if CH.isIn s i [97,98,99,100,101,102,103,104,105,106,107,108,109,110,111,112,113,114,115,116,117,118,119,120,121,122,65,66,67,68,69,70,71,72,73,74,75,76,77,78,79,80,81,82,83,84,85,86,87,88,89,90] then (if CH.isIn s (i+1) [39,96,94] then 2 else 1) else 0) else if k=3 then (if CH.isIn s i ([98,100,102,103,104,106,107,108,109,110,112,113,114,115,116,119,120,121,122,39]:Q00) then 1 else 0) else if k=4 then (if CH.isIn s i [97,105,117,101,111] then 1 else if CH.isIn s i [107,115,116,110,104,109,121,114,119,103,122,100,98,112]&&CH.isIn s (i+1) [97,105,117,101,111] then 2 else if CH.isIn s i [110] then 1 else 0) else 0:=by
 unfold CH.slen;simp only [Lk2,Cut,Ia];by_cases h1:k=1;·rw [Au h1,Au h1]
 rw [Ai h1,Ai h1];by_cases h2:k=2;·rw [Au h2,Au h2]
 rw [Ai h2,Ai h2];by_cases h3:k=3;·rw [Au h3,Au h3]
 rw [Ai h3,Ai h3];by_cases h4:k=4
 ·rw [Au h4,Au h4];cases hv:CH.isIn s i [97,105,117,101,111] with
  |true =>have:=I16 hv;rw [this];rfl
  |false =>rw [Nh];rfl
 rw [Ai h4,Ai h4]
theorem Z7 (k:Int) (s:Q00) (i:Nat) (w:ZB) (hs:s.length<=1000000) (hi:i<=1000000) : ZE prog 350 #[↑k,↑s,↑i] w (Ret w (.int .i64 (CH.slen k (s.drop i)))):=by
 have hsl:=Kj8 k s i;obtain⟨R,hR⟩:∃ R:Nat,CH.slen k (s.drop i)=R:=⟨_,rfl⟩
 rw [hR] at hsl ⊢;clear hR;have A:=Aa fun (set:Q00) (h:set.length<=1000) (W:ZB)=>R9 s i set W hs h;have A':=Aa fun (W:ZB)=>R9 s (i+1) [39,96,94] W hs dC;have A'':=Aa fun (W:ZB)=>R9 s (i+1) [97,105,117,101,111] W hs dC;by_cases h1:k=1;·subst h1;have C:=Aa (A.out CH.smalls dC);clear A A' A'';rw [Au rfl] at hsl;unfold CH.smalls at *;exact FD61
 by_cases h2:k=2
 ·subst h2;have C:=Aa (A.out [97,98,99,100,101,102,103,104,105,106,107,108,109,110,111,112,113,114,115,116,117,118,119,120,121,122,65,66,67,68,69,70,71,72,73,74,75,76,77,78,79,80,81,82,83,84,85,86,87,88,89,90] dC);clear A A'';rw [Ai dC,Au rfl] at hsl;generalize CH.isIn s i _=b at *;generalize CH.isIn s (i+1) _=b' at *;replace hsl:=Aa hsl;go_enter func350,ntmps350;go_wp2_with fail;refine CmZ (C.out _) fun w1 hb1=>?_;cases b;·obtain rfl:=hsl.out;exact FD39
  ·go_wp2_with fail;refine CmZ (A'.out _) fun w2 hb2=>?_;cases b';·obtain rfl:=hsl.out;exact FD92
   ·obtain rfl:=hsl.out;exact FD92
 by_cases h3:k=3;·subst h3;have C:=Aa (A.out ([98,100,102,103,104,106,107,108,109,110,112,113,114,115,116,119,120,121,122,39]:Q00) dC);clear A A' A'';rw [Ai dC,Ai dC,Au rfl] at hsl;exact FD61
 by_cases h4:k=4
 ·subst h4;have C1:=Aa (A.out [97,105,117,101,111] dC);have C2:=Aa (A.out [107,115,116,110,104,109,121,114,119,103,122,100,98,112] dC);have C3:=Aa (A.out [110] dC);clear A A';rw [Ai dC,Ai dC,Ai dC,Au rfl] at hsl;generalize CH.isIn s i [97,105,117,101,111]=b1 at *;generalize CH.isIn s i [107,115,116,110,104,109,121,114,119,103,122,100,98,112]=b2 at *;generalize CH.isIn s i [110]=b3 at *;generalize CH.isIn s (i+1) _=b4 at *;replace hsl:=Aa hsl;go_enter func350,ntmps350;go_wp2_with fail;refine CmZ (C1.out _) fun w1 hb1=>?_;cases b1
  ·go_wp2_with fail;refine CmZ (C2.out _) fun w2 hb2=>?_;have hB2:=hb1.trans (hb2.mono hb1.size);cases b2
   ·go_wp2_with fail;refine CmZ (C3.out _) fun w3 hb3=>?_;cases b3;·obtain rfl:=hsl.out;go_wp2;go_ret;exact FD136
    ·obtain rfl:=hsl.out;go_wp2;go_ret;exact FD136
   ·go_wp2_with fail;refine CmZ (A''.out _) fun w3 hb3=>?_;have hB3:=hB2.trans (hb3.mono hB2.size);cases b4
    ·go_wp2_with fail;refine CmZ (C3.out _) fun w4 hb4=>?_;cases b3;·obtain rfl:=hsl.out;go_wp2;go_ret;exact⟨rfl,hB3.trans (hb4.mono hB3.size)⟩
     ·obtain rfl:=hsl.out;go_wp2;go_ret;exact⟨rfl,hB3.trans (hb4.mono hB3.size)⟩
    ·obtain rfl:=hsl.out;go_wp2;go_ret;exact⟨rfl,hB3⟩
  ·obtain rfl:=hsl.out;exact FD39
 ·have e1:(k==1)=false:=by simpa using h1
  have e2:(k==2)=false:=by simpa using h2
  have e3:(k==3)=false:=by simpa using h3
  have e4:(k==4)=false:=by simpa using h4
  clear A A' A'';rw [Ai h1,Ai h2,Ai h3,Ai h4] at hsl;subst hsl;go_enter func350,ntmps350;exact FD30
def Rfl (R:Bool) (w:ZB) (e:Ending) (w':ZB):Prop:=∃ (v:ZC) (er:Int),e=.returned (.tuple #[v,↑er])/\(er==0)=R/\Below w w w'
theorem Ggh (k:Int) (n:Nat):CH.letters k n []=([],[]):=by
 cases n with
 |zero=>rfl
 |succ n=>rw [bT k n [] (by have:=oN k [];simp at this;exact this)]
theorem Xp (k:Int) (s:Q00) (w:ZB) (hs:s.length<=1000000) : ZE prog 333 #[↑k,↑s] w (Rfl (dK k s) w):=by
 obtain⟨R,hR⟩:∃ R,dK k s=R:=⟨_,rfl⟩
 have HW:=Aa fun (r:Q00) (n:Nat) (h2:(CH.letters k 13 s).2=r) (h1:(CH.letters k 13 s).1.length=n) =>(by rw [<- hR];unfold dK;rw [h2,h1,Bool.eq_iff_iff];simp [<- h1,and_assoc,List.length_pos_iff]:R=(r==[]&&(ZH (0<n)&&ZH (n<=12))))
 rw [hR];have L:=Aa fun (i:Nat) (hi:i<=1000000) (W:ZB)=>Z7 k s i W hs hi;clear hR;go_enter func333,ntmps333;go_wp2_with fail;go_loopw [6,7] (fun ov iv wr=>∃ (p j:Nat),p<=s.length/\j<=12/\iv=↑p/\Hid (∃ lo,At w wr ov lo/\lo.length=j)/\Hid ((CH.letters k 13 s).1.length=j+(CH.letters k (13 - j) (s.drop p)).1.length/\(CH.letters k 13 s).2=(CH.letters k (13 - j) (s.drop p)).2)/\Hid (Below w w wr)) (fun _ iv _=>s.length - (ZG iv).toNat);case atStart=>exact⟨0,0,Az _,Az _,rfl,Aa ⟨[],At.nil _ _,rfl⟩,Aa ⟨(Bf _).symm,rfl⟩,Aa (Ac _ _)⟩
 case round =>
  obtain⟨p,j,hp,hj,rfl,⟨lo,hO,hlo⟩,hI,hB⟩:=hrel;obtain⟨av,cv,rfl,hf1,hf2,_⟩:=hO.form;have hlo2:=Aa hlo;rw [hlo] at hf1 hO ⊢;by_cases hlt:p<s.length
  ·have hne:s.drop p≠[]:=fun e=>by have:=congrArg List.length e;rw [Ei,Bj] at this;omega
   obtain⟨i1,i2⟩:=hI.out;rw [show 13 - j=(12 - j)+1 from by omega] at i1 i2;have hle:=oN k (s.drop p);rw [Ei] at hle;obtain⟨d,hd⟩:∃ d,CH.slen k (s.drop p)=d:=⟨_,rfl⟩
   have L1:=Aa (L.out p oM wr);rw [hd] at hle L1;have hO:=Aa hO;have hsz:=hB.out.size;by_cases hz:d=0
   ·have hr:R=false:=by rw [bT k (12 - j) (s.drop p) (hd.trans hz)] at i1 i2;rw [HW.out _ _ i2 rfl,Cb.2 hne];rfl
    replace hr:=Aa hr;subst hz;exact FD58
   have qz:((d:Int)==0)=false:=by simp;omega
   rw [fA k (12 - j) (s.drop p) (by rw [hd];exact hz),hd] at i1 i2;by_cases h12:j=12
   ·have hr:R=false:=by rw [HW.out _ _ i2 i1,h12];simp
    replace hr:=Aa hr;subst h12;exact FD58
   have hnx:Hid ((CH.letters k 13 s).1.length=(j+1)+(CH.letters k (13 - (j+1)) (s.drop (p+d))).1.length/\(CH.letters k 13 s).2=(CH.letters k (13 - (j+1)) (s.drop (p+d))).2):=Aa (by rw [List.drop_drop] at i1 i2;rw [show 13 - (j+1)=12 - j from by omega,i1,i2,A8];exact⟨oM,rfl⟩);have q12:((j:Int)==12)=false:=by simp;omega
   clear hI i1 i2 hd hne HW;go_wp2_with fail;refine CmZ L1.out fun w1 hb1=>?_;have hO1:=hO.out.below hb1;have hB1:=hB.out.trans (hb1.mono hB.out.size);have hs1:=hB1.size;clear L1 hb1;have z0:(0:Int)<=(p:Int):=oM;have z1:(p:Int)<=(p:Int)+(d:Int):=oM;have z2:(p:Int)+(d:Int)<=(s.length:Int):=oM;have hex:(ByteArray.mk s.toArray).extract p (p+d)=⟨((s.drop p).take d).toArray⟩:=by rw [Fk,Ho]
   go_wp2_with (at_builtin;refine Cq rfl _ _ rfl w _ lo rfl (hO1.alloc _) w1.heap.size 1 ((s.drop p).take d) rfl ?c1 ?c2 ?c3 ?_)
   case c1=>rw [Cj _ _ _ _ rfl];rfl
   case c2=>have:=hlo2.out;omega
   case c3=>simp;omega
   intro v3 w3 hO3 hg3 _;have hB4:Hid (Below w w w3):=Aa ((hB1.alloc oM _).grown hg3 (by simp;omega) (fun j hj=>(Dw hO1 j hj).1));have hO4:Hid (∃ lo,At w w3 v3 lo/\lo.length=j+1):=Aa ⟨_,hO3,by rw [Ah,hlo2.out];rfl⟩;clear hO3 hg3;go_wp2;go_roundw;case rel=>exact⟨p+d,j+1,oM,oM,by go_num,hO4,hnx,hB4⟩
   case measure=>simp [ZG];omega
  ·obtain rfl:p=s.length:=oM;have hr:R=ZH (0<j):=by obtain⟨i1,i2⟩:=hI.out;rw [List.drop_length,Ggh] at i1 i2;rw [HW.out _ _ i2 i1,Bj,Ia,Am hj];simp
   replace hr:=Aa hr;clear hI HW;by_cases h0:j=0;·subst h0;go_wp2;refine Aj (Aq rfl _ _ _) rfl ?_;exact⟨_,_,rfl,by rw [hr.out];rfl,hB.out⟩
   ·have q0:((j:Int)==0)=false:=by simp;omega
    go_wp2;refine Aj (Aq rfl _ _ _) rfl ?_;exact⟨_,_,rfl,by rw [hr.out,Am oM];rfl,hB.out⟩
theorem Zu (k:Int) (s:Q00) (w:ZB) (hs:s.length<=1000000) : ZE prog 308 #[↑k,↑s] w (Ret w (.bool (dK k s))):=by have L:=Xp k s w hs;go_enter func308,ntmps308;go_wp2_with fail;refine L.mono ?_;rintro e w1 ⟨v,er,rfl,hr,hb1⟩;clear L;rw [<- hr];exact FD39
theorem Rc (n:Q05) (v:ZC) (w:ZB) (hv:Strs w w v n.words) (hl:∀ l∈n.words,l.length<=1000000) : ZE prog 263 #[.agg #[↑n.script,v]] w (Ret w (.bool (bP n))):=by
 unfold bP;have C:=Aa fun (k:Nat) (x:Q00) (hk:n.words[k]?=some x) (W:ZB)=>Zu n.script x W (hl x (Ap hk));clear hl;generalize n.words=ls at *;generalize n.script=sc at *;obtain⟨a,cap,rfl,hl,hcap,hne⟩:=hv;replace hne:=Aa hne;obtain⟨N,hN⟩:∃ N,ls.length=N:=⟨_,rfl⟩
 obtain⟨R,hR⟩:∃ R,(ls.all (dK sc)&&(ZH (0<ls.length)&&ZH (ls.length<=6)))=R:=⟨_,rfl⟩
 have HF:=Aa fun (k:Nat) (x:Q00) (hk:ls[k]?=some x) (h:dK sc x=false)=>(by rw [<- hR,<- Gz];intro e;rw [Ba] at e;rw [Df.1 e.1 x (Ap hk)] at h;exact Bool.noConfusion h:R=false)
 rw [hR];rw [hN] at hl hR ⊢;have HE:=Aa fun (h:∀ k x,k<N->ls[k]?=some x->dK sc x=true)=>(by rw [<- hR,Df.2 fun x hx=>(Dj.1 hx).elim fun k hk=>h k x (by have:=(lS hk);omega) hk,a_Bool_true_and]:R=(ZH (0<N)&&ZH (N<=6)))
 clear hR;replace hN:=Aa hN;have hB0:=Aa fun o=>(Ac _ w).alloc nR o;go_enter func263,ntmps263;go_wp2_with fail;have B:=hB0.out;generalize hWd:w.alloc _=W at *;have hBW:Below w w W:=by rw [<- hWd];exact B _
 have K:=Aa (Cp (C:=[↑sc,.slice a N cap]) hWd);have hlW:w.heap.size<W.heap.size:=by rw [<- hWd];simp
 clear hWd hB0 B;go_loopw [3] (fun iv wr=>∃ k:Nat,k<=N/\iv=↑k/\Hid (∀ j x,j<k->ls[j]?=some x->dK sc x=true)/\Hid (Below W W wr)) (fun iv _=>N - (ZG iv).toNat);case atStart=>exact⟨0,Az _,rfl,Aa fun j x h=>absurd h (Nat.not_lt_zero _),Aa (Ac _ _)⟩
 case round =>
  obtain⟨k,hk,rfl,hT,hB⟩:=hrel;have c0:=K.out wr hB.out 0 _ rfl;have c1:=K.out wr hB.out 1 _ rfl;by_cases hlt:k<N
  ·obtain⟨b,off,rfl,hbl,kj⟩:=hne.out (by intro h;have:=hN.out;simp [h] at this;omega);obtain⟨l,hl'⟩:∃ l,ls[k]?=some l:=⟨_,Ad (by rw [hN.out];exact hlt)⟩
   have e1:wr.cell? ⟨b,off+k,none⟩=some ↑l:=((hBW.trans (hB.out.mono hBW.size)).cell (p:=⟨b,off+k,none⟩) hbl).trans (kj k l hl');have D:=fun (W:ZB)=>C.out k l hl' W;have z0:(0:Int)<=(k:Int):=oM;have zk:((k:Int)).toNat=k:=oM;have hk':(k:Int)<(N:Int):=oM;have g0:=@Ag _ _ _ c0;have g1:=@Ag _ _ _ c1;have g2:=@Ag _ _ _ e1;have Hl:=Aa hl';clear kj hl';cases hb:dK sc l with
   |false =>
    rw [hb] at D;replace D:=Aa D;have hr:=Aa (HF.out k l Hl.out hb);go_wp2_with fail;refine Ar kR kR ?_;repeat (quiet_step ((with_reducible exact Bc (D.out _))))
    refine Bv ?_;intro wq hbq;replace hbq:=An hbq;clear g0 g1 g2 D;have hB2:=Aa (hB.out.trans (hbq.mono hB.out.size));clear hbq e1 c0 c1 hB;go_wp2;go_ret;exact⟨by rw [hr.out];rfl,hBW.trans (hB2.out.mono hBW.size)⟩
   |true =>
    rw [hb] at D;replace D:=Aa D;have hT1:Hid (∀ j x,j<k+1->ls[j]?=some x->dK sc x=true):=Aa fun j x hj hx=>by exact FD162
    go_wp2_with fail;refine Ar kR kR ?_;repeat (quiet_step ((with_reducible exact Bc (D.out _))))
    refine Bv ?_;intro wq hbq;replace hbq:=An hbq;clear g0 g1 g2 D;have hB2:=Aa (hB.out.trans (hbq.mono hB.out.size));clear hbq e1 c0 c1 hB;go_wp2;go_roundw;case rel=>exact⟨k+1,oM,by go_num,hT1,hB2⟩
    case measure=>simp [ZG];omega
  ·obtain rfl:k=N:=oM;have hr:=HE.out hT.out;rcases (oM:k=0\/6<k\/1<=k/\k<=6) with h|h|⟨h,h'⟩;·have q1:ZH ((1:Int)<=(k:Int))=false:=Ak oM;rw [Ak oM,Gi] at hr;exact FD83
   ·have q1:ZH ((1:Int)<=(k:Int))=true:=Am oM;have q2:ZH ((k:Int)<=6)=false:=Ak oM;rw [Am oM,Ak oM,Ee] at hr;exact FD83
   ·have q1:ZH ((1:Int)<=(k:Int))=true:=Am oM;have q2:ZH ((k:Int)<=6)=true:=Am oM;rw [Am oM,Am h',Jd] at hr;exact FD83
theorem Vo (n:Q05) (v:ZC) (w:ZB) (hv:Strs w w v n.words) (hl:∀ l∈n.words,l.length<=1000000) (h:bP n=true) : ZE prog 263 #[.agg #[↑n.script,v]] w (Ret w (.bool true)):=by have:=Rc n v w hv hl;rwa [h] at this
theorem Bn (h:CH.isName s=true):1<=s.length/\s.length<=24:=⟨(Sn h).1,(Sn h).2.1⟩
theorem Zy (e:CH.Entry) (v:ZC) (w:ZB) (hv:Fs w w v e.names) (hS:∀ n∈e.names,∀ l∈n.words,l.length<=1000000) (hi:e.id.length<=9223372036854775807) : ZE prog 261 #[.agg #[↑e.id,v]] w (Ret w (.bool (dN e))):=by
 obtain⟨R,hR⟩:∃ R,dN e=R:=⟨_,rfl⟩
 have hR2:=hR;unfold dN at hR2;rw [ng] at hR2;rw [hR];clear hR;have I:=Aa fun (W:ZB)=>Ff e.id W hi;have C:=Aa fun (k:Nat) (x:Q05) (hk:e.names[k]?=some x)=>fun (vw:ZC) (W:ZB) (hvw:Strs W W vw x.words)=>Rc x vw W hvw (hS x (Ap hk));clear hS hi;generalize e.names=ls at *;generalize e.id=id at *;generalize CH.isName id=bn at *;obtain⟨a,cap,rfl,hl,hcap,hne⟩:=hv;replace hne:=Aa hne;obtain⟨N,hN⟩:∃ N,ls.length=N:=⟨_,rfl⟩
 rw [hN] at hl hR2 ⊢;have HF:=Aa fun (k:Nat) (x:Q05) (hk:ls[k]?=some x) (h:bP x=false)=>(by rw [<- hR2,Jc.2 ⟨x,Ap hk,by rw [h];rfl⟩];simp:R=false)
 have HE:=Aa fun (h:∀ k x,k<N->ls[k]?=some x->bP x=true)=>(by
  have h0:(ls.any fun n=>!bP n)=false:=I8.2 fun x hx=>(Dj.1 hx).elim fun k hk=>by rw [h k x (by have:=(lS hk);omega) hk];simp
  rw [<- hR2,h0,Gy,Jd]:R=(bn&&(ZH (0<N)&&ZH (N<=8))))
 clear hR2;replace hN:=Aa hN;have hB0:=Aa fun o=>(Ac _ w).alloc nR o;go_enter func261,ntmps261;go_wp2_with fail;have B:=hB0.out;generalize hWd:w.alloc _=W at *;have hBW:Below w w W:=by rw [<- hWd];exact B _
 have K:=Aa (Cp (C:=[↑id,.slice a N cap]) hWd);clear hWd hB0 B;go_loopw [3] (fun iv wr=>∃ k:Nat,k<=N/\iv=↑k/\Hid (∀ j x,j<k->ls[j]?=some x->bP x=true)/\Hid (Below W W wr)) (fun iv _=>N - (ZG iv).toNat);case atStart=>exact⟨0,Az _,rfl,Aa fun j x h=>absurd h (Nat.not_lt_zero _),Aa (Ac _ _)⟩
 case round =>
  obtain⟨k,hk,rfl,hT,hB⟩:=hrel;have c0:=K.out wr hB.out 0 _ rfl;have c1:=K.out wr hB.out 1 _ rfl;have hBw:Below w w wr:=hBW.trans (hB.out.mono hBW.size);by_cases hlt:k<N
  ·obtain⟨b,off,rfl,hbl,kj⟩:=hne.out (by intro h;have:=hN.out;simp [h] at this;omega);obtain⟨n,hn'⟩:∃ n,ls[k]?=some n:=⟨_,Ad (by rw [hN.out];exact hlt)⟩
   obtain⟨vw,d1,d2,d3⟩:=kj k n hn';have e1:=(hBw.cell (p:=⟨b,off+k*2,none⟩) hbl).trans d1;have e2:=(hBw.cell (p:=⟨b,off+k*2+1,none⟩) hbl).trans d2;have F:=C.out k n hn' vw wr ((d3.below hBw nR).mono hBw.size);have Hl:=Aa hn';clear kj d1 d2 hn';obtain⟨vwa,vwc,rfl,_,_⟩:=d3;generalize n.words.length=nw at *;have z0:(0:Int)<=(k:Int):=oM;have zk:((k:Int)).toNat=k:=oM;have hk':(k:Int)<(N:Int):=oM;cases hb:bP n with
   |false =>rw [hb] at F;replace F:=Aa F;have hr:=Aa (HF.out k n Hl.out hb);go_wp2_with fail;refine CmZ F.out fun w1 hb1=>?_;have hB1:Hid (Below W W w1):=Aa (hB.out.trans (hb1.mono hB.out.size));clear F e1 e2 c0 c1 hb1 hBw hB;go_wp2;go_ret;exact⟨by rw [hr.out];rfl,hBW.trans (hB1.out.mono hBW.size)⟩
   |true =>
    rw [hb] at F;replace F:=Aa F;have hT1:Hid (∀ j x,j<k+1->ls[j]?=some x->bP x=true):=Aa fun j x hj hx=>by exact FD162
    go_wp2_with fail;refine CmZ F.out fun w1 hb1=>?_;have hB1:Hid (Below W W w1):=Aa (hB.out.trans (hb1.mono hB.out.size));clear F e1 e2 c0 c1 hb1 hBw hB;go_wp2;go_roundw;case rel=>exact⟨k+1,oM,by go_num,hT1,hB1⟩
    case measure=>simp [ZG];omega
  ·obtain rfl:k=N:=oM;have hr:=Aa (HE.out hT.out);clear HE HF hT;go_wp2_with fail;refine CmZ (I.out _) fun w1 hb1=>?_;have hB1:=hB.out.trans (hb1.mono hB.out.size);have c1:=K.out w1 hB1 1 _ rfl;clear I;cases bn with
   |false =>go_wp2;go_ret;exact⟨by rw [hr.out];rfl,hBW.trans (hB1.mono hBW.size)⟩
   |true =>
   rcases (oM:k=0\/8<k\/1<=k/\k<=8) with h|h|⟨h,h'⟩;·have q1:ZH ((1:Int)<=(k:Int))=false:=Ak oM;go_wp2;go_ret;exact⟨by rw [hr.out,Ak (oM:¬ 0<k)];rfl,hBW.trans (hB1.mono hBW.size)⟩
   ·have q1:ZH ((1:Int)<=(k:Int))=true:=Am oM;have q2:ZH ((k:Int)<=8)=false:=Ak oM;go_wp2;go_ret;exact⟨by rw [hr.out,Ak (oM:¬ k<=8),Ee,Ee];rfl,hBW.trans (hB1.mono hBW.size)⟩
   ·have q1:ZH ((1:Int)<=(k:Int))=true:=Am oM;have q2:ZH ((k:Int)<=8)=true:=Am oM;go_wp2;go_ret;exact⟨by rw [hr.out,Am (oM:0<k),Am h'];rfl,hBW.trans (hB1.mono hBW.size)⟩
theorem U8 (c:CH.Change):dn c=(CH.isName c.id&&(if c.kind=1 then (c.entry.id==c.id&&dN c.entry)&&aW c.pos else if c.kind=2 then (c.entry.id==[]&&ZH (c.entry.names.length=0))&&aW c.pos else if c.kind=3 then (c.entry.id==c.id&&dN c.entry)&&c.pos==0 else (c.kind==4&&(c.entry.id==[]&&ZH (c.entry.names.length=0))&&c.pos==0))):=by
 unfold dn;rw [ng];generalize dN c.entry=b1;generalize aW c.pos=b2;generalize CH.isName c.id=b3;rcases (oM:c.kind=1\/c.kind=2\/c.kind=3\/c.kind=4\/(c.kind<1\/4<c.kind)) with e|e|e|e|e;·cases b1 <;> cases b2 <;> cases b3 <;> cases h:(c.entry.id==c.id) <;> simp [e,bne,h]
 ·cases b2 <;> cases b3 <;> cases h:(c.entry.id==([]:Q00)) <;> simp [e,bne,h,Nat.pos_iff_ne_zero]
 ·cases b1 <;> cases b3 <;> cases h:(c.entry.id==c.id) <;> cases h2:(c.pos==0) <;> simp [e,bne,h,h2]
 ·cases b3 <;> cases h:(c.entry.id==([]:Q00)) <;> cases h2:(c.pos==0) <;> simp [e,bne,h,h2,Nat.pos_iff_ne_zero]
 ·have e1:(ZH (c.kind<1)||ZH (c.kind > 4))=true:=by simp;omega
  rw [Au (by rw [Bool.or_assoc,e1,Bool.or_true]),Ai oM,Ai oM,Ai oM,show (c.kind==4)=false from by simp;omega];simp
theorem Oy (c:CH.Change) (v:ZC) (w:ZB) (hv:Fs w w v c.entry.names) (hS:∀ n∈c.entry.names,∀ l∈n.words,l.length<=1000000) (hi:c.id.length<=9223372036854775807) (hi2:c.entry.id.length<=9223372036854775807) : ZE prog 203 #[.agg (A5 c v).toArray] w (Ret w (.bool (dn c))):=by
 obtain⟨R,hR⟩:∃ R,dn c=R:=⟨_,rfl⟩
 rw [hR];rw [U8] at hR;have I:=Aa fun (W:ZB)=>Ff c.id W hi;have hB0:=Aa fun o=>(Ac _ w).alloc nR o;have P:=Aa fun (W:ZB) (hb:Below w w W)=>Zy c.entry v W (hv.grow hb) hS hi2;have D:=Aa fun (W:ZB)=>E6a c.pos W;obtain⟨a,cap,rfl,hl,hcap,_⟩:=hv;dsimp only [A5] at *;generalize dN c.entry=bp at *;generalize aW c.pos=bd at *;generalize CH.isName c.id=bn at *;have s1:((⟨c.entry.id.toArray⟩:ByteArray)==⟨c.id.toArray⟩)=(c.entry.id==c.id):=by rw [Cr]
 have s2:((⟨c.entry.id.toArray⟩:ByteArray)==⟨#[]⟩)=(c.entry.id==[]):=by rw [show (#[]:Array UInt8)=([]:Q00).toArray from rfl,Cr]
 have s3:List.isEmpty c.entry.id=(c.entry.id==[]):=by cases c.entry.id <;> rfl
 generalize (c.entry.id==c.id)=y1 at *;generalize (c.entry.id==[])=y2 at *;generalize c.entry.id=eid at *;generalize c.id=id at *;generalize c.pos=pos at *;generalize c.kind=kd at *;generalize c.entry.names.length=N at *;clear hl hS hi hi2;replace s1:=Aa s1;replace s2:=Aa s2;replace s3:=Aa s3;obtain⟨bz,hz⟩:∃ b,(pos==0)=b:=⟨_,rfl⟩
 obtain⟨bq,q2,q3⟩:∃ b,((N:Int)==0)=b/\ZH (N=0)=b:=⟨_,rfl,by rw [Es];simp⟩
 rw [q3,hz] at hR;replace hR:=Aa hR;go_enter func203,ntmps203;go_wp2_with fail;have B:=hB0.out;generalize hWd:w.alloc _=W at *;have hBW:Below w w W:=by rw [<- hWd];exact B _
 have K:=Aa (Cp hWd);clear hWd hB0 B;refine CmZ (I.out _) fun w1 hb1=>?_;have hB1:=hBW.trans (hb1.mono hBW.size);have c0:=K.out w1 hb1 0 _ rfl;have c1:=K.out w1 hb1 1 _ rfl;have c2:=K.out w1 hb1 2 _ rfl;have c3:=K.out w1 hb1 3 _ rfl;have c4:=K.out w1 hb1 4 _ rfl;clear I;cases bn with
 |false =>have hr:=hR.out;rw [Gi] at hr;replace hr:=Aa hr;go_wp2;go_ret;exact⟨by rw [<- hr.out];rfl,hB1⟩
 |true =>
 replace s1:=s1.out;replace s2:=s2.out;replace s3:=s3.out;have hk:kd=1\/kd=2\/kd=3\/kd=4\/(((kd==1)=false/\(kd==2)=false)/\(kd==3)=false/\(kd==4)=false):=by simp only [Cb,ne_eq];omega
 cases y1
 ·have s4:(eid==id)=false:=by rw [<- Cr];exact s1
  have s5:¬ eid=id:=Cb.1 s4;have s6:¬ id=eid:=fun e=>s5 e.symm;have hx:eid=[]/\y2=true\/(¬ eid=[]/\(eid==[])=false)/\y2=false:=by exact FD113
  rcases hx with⟨rfl,rfl⟩|⟨⟨s7,s8⟩,rfl⟩ <;> cases bq <;> cases bz <;> rcases hk with rfl|rfl|rfl|rfl|⟨⟨k1,k2⟩,k3,k4⟩;all_goals
   have hr:=hR.out;clear P;first
   |rw [Au rfl] at hr
   |rw [Ai dC,Au rfl] at hr
   |rw [Ai dC,Ai dC,Au rfl] at hr
   |rw [Ai dC,Ai dC,Ai dC] at hr
   |rw [Ai (Cb.1 k1),Ai (Cb.1 k2),Ai (Cb.1 k3),k4] at hr
   replace hr:=Aa hr;clear hR;go_wp2_with fail;first
   |(go_ret;exact⟨by rw [<- hr.out];rfl,hB1⟩)
   |(refine CmZ (D.out _) fun w3 hb3=>?_
     go_wp2
     go_ret
     exact⟨by rw [<- hr.out];rfl,hB1.trans (hb3.mono hB1.size)⟩)
 ·obtain rfl:eid=id:=by rw [Cr] at s1;exact eq_of_beq s1
  have hx:eid=[]/\y2=true\/(¬ eid=[]/\(eid==[])=false)/\y2=false:=by exact FD113
  rcases hx with⟨rfl,rfl⟩|⟨⟨s7,s8⟩,rfl⟩ <;> cases bq;all_goals go_wp2_with fail;refine CmZ (P.out _ hB1) fun w2 hb2=>?_;have hB2:=hB1.trans (hb2.mono hB1.size);have hb2:=hb1.trans (hb2.mono hb1.size);have c0:=K.out w2 hb2 0 _ rfl;have c4:=K.out w2 hb2 4 _ rfl;clear P hB1 hb1;cases bp <;> cases bz <;> rcases hk with rfl|rfl|rfl|rfl|⟨⟨k1,k2⟩,k3,k4⟩
  all_goals
   have hr:=hR.out;first
   |rw [Au rfl] at hr
   |rw [Ai dC,Au rfl] at hr
   |rw [Ai dC,Ai dC,Au rfl] at hr
   |rw [Ai dC,Ai dC,Ai dC] at hr
   |rw [Ai (Cb.1 k1),Ai (Cb.1 k2),Ai (Cb.1 k3),k4] at hr
   replace hr:=Aa hr;clear hR;go_wp2_with fail;first
   |(go_ret;exact⟨by rw [<- hr.out];rfl,hB2⟩)
   |(refine CmZ (D.out _) fun w3 hb3=>?_
     go_wp2
     go_ret
     exact⟨by rw [<- hr.out];rfl,hB2.trans (hb3.mono hB2.size)⟩)
theorem Ch3 (c:CH.Change) (v:ZC) (w:ZB) (hv:Fs w w v c.entry.names) (hS:∀ n∈c.entry.names,∀ l∈n.words,l.length<=1000000) (h:dn c=true) : ZE prog 203 #[.agg (A5 c v).toArray] w (Ret w (.bool true)):=by
 have h0:=h;rw [U8,Ba] at h0;have hi:c.id.length<=9223372036854775807:=by have:=(Bn h0.1).2;omega
 have hi2:c.entry.id.length<=9223372036854775807:=by
  have h1:=h0.2;repeat' split at h1
  all_goals
   simp only [Ba,Eb] at h1;first
   |(rw [h1.1.1];exact hi)
   |(rw [h1.1.1];simp)
   |(rw [h1.1.2.1];simp)
 have:=Oy c v w hv hS hi hi2;rwa [h] at this
theorem I0 (h:1<=s.length):((⟨s.toArray⟩:ByteArray)==⟨#[]⟩)=false:=by rw [show (#[]:Array UInt8)=([]:Q00).toArray from rfl,Cr,<- Gz,Eb];rintro rfl;simp at h
theorem Hi (h:1<=s.length):s.isEmpty=false:=by
 cases s with
 |nil=>simp at h
 |cons=>rfl
theorem F20 (m:bD):aT m=(CH.isName m.id&&(CH.isName m.authority&&(if m.kind=1 then m.target==[] else if m.kind=2 then CH.isName m.target&&!(m.target==m.id) else if m.kind=3 then CH.isName m.target&&!(m.target==m.authority) else false))):=by
 unfold aT;simp only [kQ,bne];repeat' split
 all_goals simp only [Bool.and_assoc,Ee]
theorem Qy (m:bD) (vk:ZC) (w:ZB) (hK:Ay w w m.aB vk) (hi1:m.id.length<=9223372036854775807) (hi2:m.authority.length<=9223372036854775807) (hi3:m.target.length<=9223372036854775807) : ZE prog 206 #[.agg (Av m vk).toArray] w (Ret w (.bool (aT m))):=by
 obtain⟨R,hR⟩:∃ R,aT m=R:=⟨_,rfl⟩
 rw [hR];rw [F20] at hR;have T1:=Aa fun (W:ZB)=>Ff m.id W hi1;have T2:=Aa fun (W:ZB)=>Ff m.authority W hi2;have T3:=Aa fun (W:ZB)=>Ff m.target W hi3;have hB0:=Aa fun o=>(Ac _ w).alloc nR o;obtain⟨a,cap,rfl,_,_,_⟩:=hK.form;clear hK hi1 hi2 hi3;generalize m.aB.kids.length=n at *;dsimp only [Av] at *;generalize CH.isName m.id=b1 at *;generalize CH.isName m.authority=b2 at *;generalize CH.isName m.target=b3 at *;generalize m.id=id at *;generalize m.authority=au at *;generalize m.target=tg at *;generalize m.kind=kd at *;replace hR:=Aa hR;go_enter func206,ntmps206;go_wp2_with fail;have B:=hB0.out;generalize hWd:w.alloc _=W at *;have hBW:Below w w W:=by rw [<- hWd];exact B _
 have K:=Aa (Cp hWd);clear hWd hB0 B;refine CmZ (T1.out _) fun w1 hb1=>?_;have c1:=K.out w1 hb1 1 _ rfl;clear T1;cases b1 with
 |false =>go_wp2;go_ret;exact⟨by rw [<- hR.out];rfl,hBW.trans (hb1.mono hBW.size)⟩
 |true =>
 go_wp2_with fail;refine CmZ (T2.out _) fun w2 hb2=>?_;have hb2:=hb1.trans (hb2.mono hb1.size);have c0:=K.out w2 hb2 0 _ rfl;have c1:=K.out w2 hb2 1 _ rfl;have c2:=K.out w2 hb2 2 _ rfl;have c3:=K.out w2 hb2 3 _ rfl;have hB2:=hBW.trans (hb2.mono hBW.size);clear T2;cases b2 with
 |false =>go_wp2;go_ret;exact⟨by rw [<- hR.out];rfl,hB2⟩
 |true =>
 have hr:=hR.out;rw [a_Bool_true_and,a_Bool_true_and] at hr;clear hR;rcases (oM:kd=1\/kd=2\/kd=3\/¬ kd=1/\¬ kd=2/\¬ kd=3) with rfl|rfl|rfl|⟨k1,k2,k3⟩
 ·rw [Au rfl] at hr;clear T3;cases hx:tg==([]:Q00) with
  |false =>obtain⟨s1,s2,s3⟩:=Iv hx;have s4:tg.isEmpty=false:=List.isEmpty_eq_false_iff.2 s2;rw [hx] at hr;replace hr:=Aa hr;exact FD157
  |true =>obtain rfl:=eq_of_beq hx;replace hr:=Aa hr;exact FD157
 ·rw [Ai dC,Au rfl] at hr;replace hr:=Aa hr;go_wp2_with fail;refine CmZ (T3.out _) fun w3 hb3=>?_;have hb3:=hb2.trans (hb3.mono hb2.size);have c0:=K.out w3 hb3 0 _ rfl;have c3:=K.out w3 hb3 3 _ rfl;have hB3:=hBW.trans (hb3.mono hBW.size);clear c1 c2 T3;cases b3 with
  |false =>exact FD156
  |true =>
  cases hx:tg==id with
  |false =>obtain⟨s1,s2,s3⟩:=Iv hx;exact FD51
  |true =>obtain rfl:=eq_of_beq hx;exact FD51
 ·rw [Ai dC,Ai dC,Au rfl] at hr;replace hr:=Aa hr;go_wp2_with fail;refine CmZ (T3.out _) fun w3 hb3=>?_;have hb3:=hb2.trans (hb3.mono hb2.size);have c1:=K.out w3 hb3 1 _ rfl;have c3:=K.out w3 hb3 3 _ rfl;have hB3:=hBW.trans (hb3.mono hBW.size);clear c0 c2 T3;cases b3 with
  |false =>exact FD156
  |true =>
  cases hx:tg==au with
  |false =>obtain⟨s1,s2,s3⟩:=Iv hx;exact FD51
  |true =>obtain rfl:=eq_of_beq hx;exact FD51
 ·rw [Ai k1,Ai k2,Ai k3] at hr;replace hr:=Aa hr;have q1:(kd==1)=false:=Cb.2 k1;have q2:(kd==2)=false:=Cb.2 k2;have q3:(kd==3)=false:=Cb.2 k3;exact FD157
theorem Ex2 (m:bD) (vk:ZC) (w:ZB) (hK:Ay w w m.aB vk) (h:aT m=true) : ZE prog 206 #[.agg (Av m vk).toArray] w (Ret w (.bool true)):=by
 have h0:=h;rw [F20,Ba,Ba] at h0;obtain⟨h1,h2,h3⟩:=h0;have h4:m.target.length<=24:=by
  repeat' split at h3
  ·rw [eq_of_beq h3];simp
  ·exact (Bn (Ba _ _ ▸ h3).1).2
  ·exact (Bn (Ba _ _ ▸ h3).1).2
  ·cases h3
 have:=Qy m vk w hK (by have:=(Bn h1).2;omega) (by have:=(Bn h2).2;omega) oM;rwa [h] at this
theorem Q7 (m:bD) (vk:ZC) (w:ZB) (hK:Ay w w m.aB vk) : ZE prog 207 #[.agg (Av m vk).toArray] w (Ret w (.bool (bg m))):=by
 obtain⟨R,hR⟩:∃ R,bg m=R:=⟨_,rfl⟩
 rw [hR];unfold bg at hR;have hB0:=Aa fun o=>(Ac _ w).alloc nR o;obtain⟨a,cap,rfl,_,_,_⟩:=hK.form;clear hK;generalize m.aB.kids.length=n at *;dsimp only [Av] at *;generalize m.start=st at *;generalize m.aF=un at *;generalize m.dP=wi at *;generalize m.kind=kd at *;rcases (oM:(st<0\/100000<st)\/0<=st/\st<=100000) with h|⟨h1,h2⟩
 ·have hr:R=false:=by
   rw [<- hR];rcases h with h|h;·rw [Ak (oM:¬ st >= 0)];rfl
   ·rw [Ak (oM:¬ st<=100000),Gi,Ee]
  replace hr:=Aa hr;clear hR;rcases h with h|h;·have q1:ZH (st<0)=true:=Am h;clear h;exact FD160
  ·have q1:ZH (st<0)=false:=Ak oM;have q2:ZH (100000<st)=true:=Am h;clear h;exact FD160
 have q1:ZH (st<0)=false:=Ak oM;have q2:ZH (100000<st)=false:=Ak oM;rw [Am (oM:st >= 0),Am h2,a_Bool_true_and,a_Bool_true_and] at hR;clear h1 h2;have hu:un = -1\/(un != -1)=true/\(un==-1)=false:=by rw [bne_iff_ne,Cb];omega
 have hwi:(wi<0\/400<wi)\/wi=0\/(1<=wi/\wi<=400):=oM;have Z:∀ b,(ZH (wi >= 0)&&ZH (wi<=if kd=1 then 400 else 0))=b->(un = -1\/(ZH (un<=st)=false/\ZH (100000<un)=false))->R=b:=fun b hb h=>by
  rw [<- hR,hb];rcases h with h|⟨h1,h2⟩;·rw [h];rfl
  ·rw [Dc] at h1 h2;rw [Am (oM:un > st),Am (oM:un<=100000),Jd,Bool.or_true,a_Bool_true_and]
 have Y:(un==-1)=false->(ZH (un<=st)=true\/ZH (100000<un)=true)->R=false:=fun h1 h2=>by
  rw [<- hR,h1,Nh];rcases h2 with h|h <;> rw [Bq] at h;·rw [Ak (oM:¬ un > st)];rfl
  ·rw [Ak (oM:¬ un<=100000),Ee];rfl
 clear hR;have W0:wi<0->(ZH (wi >= 0)&&ZH (wi<=if kd=1 then 400 else 0))=false:=fun h=>by rw [Ak oM];rfl
 have W1:400<wi->(ZH (wi >= 0)&&ZH (wi<=if kd=1 then 400 else 0))=false:=fun h=>by rw [Ak (by split <;> omega:¬ (wi<=if kd=1 then 400 else 0)),Ee]
 have W2:wi=0->(ZH (wi >= 0)&&ZH (wi<=if kd=1 then 400 else 0))=true:=fun h=>by rw [h,Am oM,Am (by split <;> omega)];rfl
 have W3:1<=wi->wi<=400->(ZH (wi >= 0)&&ZH (wi<=if kd=1 then 400 else 0))=(kd==1):=fun h h'=>by
  rw [Am oM,a_Bool_true_and];by_cases e:kd=1;·rw [Au e,e,Am h'];rfl
  ·rw [Ai e,Ak oM,Cb.2 e]
 replace Z:=Aa Z;replace Y:=Aa Y;replace W0:=Aa W0;replace W1:=Aa W1;replace W2:=Aa W2;replace W3:=Aa W3;have go1:(un = -1\/((un != -1)=true/\(un==-1)=false)/\(ZH (un<=st)=true\/ZH (un<=st)=false/\(ZH (100000<un)=true\/ZH (100000<un)=false))):=by
  rcases hu with h|h;·exact .inl h
  ·refine .inr ⟨h,?_⟩;cases ZH (un<=st) <;> cases ZH (100000<un) <;> simp
 clear hu;rcases go1 with rfl|⟨⟨u1,u2⟩,u3|⟨u3,u4|u4⟩⟩;rotate_left;·have hr:=Aa (Y.out u2 (.inl u3));clear Z Y W0 W1 W2 W3 hwi;exact FD160
 ·have hr:=Aa (Y.out u2 (.inr u4));clear Z Y W0 W1 W2 W3 hwi;exact FD160
 all_goals
  have Z1:=Aa fun b hb=>Z.out b hb (by first|exact .inl rfl|exact .inr ⟨u3,u4⟩);clear Z Y;rcases hwi with (h|h)|rfl|⟨h,h'⟩;·have hr:=Aa (Z1.out _ (W0.out h));have q5:ZH (0<=wi)=false:=Ak oM;clear Z1 W0 W1 W2 W3 h;go_enter func207,ntmps207;go_wp2;go_ret;exact⟨by rw [hr.out];rfl,hB0.out _⟩
  ·have hr:=Aa (Z1.out _ (W1.out h));have q5:ZH (0<=wi)=true:=Am oM;have q6:ZH (wi<=400)=false:=Ak oM;clear Z1 W0 W1 W2 W3 h;go_enter func207,ntmps207;go_wp2;go_ret;exact⟨by rw [hr.out];rfl,hB0.out _⟩
  ·have hr:=Aa (Z1.out _ (W2.out rfl));clear Z1 W0 W1 W2 W3;go_enter func207,ntmps207;go_wp2;go_ret;exact⟨by rw [hr.out];rfl,hB0.out _⟩
  ·have hr:=Aa (Z1.out _ (W3.out h h'));have q5:ZH (0<=wi)=true:=Am oM;have q6:ZH (wi<=400)=true:=Am oM;have q8:(wi==0)=false:=Cb.2 oM;clear Z1 W0 W1 W2 W3 h h';go_enter func207,ntmps207;go_wp2;go_ret;exact⟨by rw [hr.out];rfl,hB0.out _⟩
theorem Fam (m:bD) (vk:ZC) (w:ZB) (hK:Ay w w m.aB vk) (h:bg m=true) : ZE prog 207 #[.agg (Av m vk).toArray] w (Ret w (.bool true)):=by have:=Q7 m vk w hK;rwa [h] at this
theorem M5 (sep:Q00):∀ (l:List Q00) (x:Q00),CH.join sep (l++[x])=if l=[] then x else CH.join sep l++(sep++x)
 |[],_=>rfl
 |[y],x=>by simp [CH.join]
 |y::z::l,x=>by
  have:=M5 sep (z::l) x
  simp only [Ea,reduceCtorEq,Le] at this ⊢
  simp only [CH.join]
  rw [this]
  simp
theorem Pc (sep:Q00):∀ (l r:List Q00),(CH.join sep l).length<=(CH.join sep (l++r)).length
 |l,[]=>by rw [Gg];exact Bg _
 |l,x::r=>by
  have h1:=Pc sep (l++[x]) r
  rw [Dv,List.singleton_append] at h1
  refine Af ?_ h1
  rw [M5]
  split
  ·rename_i e
   rw [e]
   exact Az _
  ·simp
theorem Mj (v:ZC) (ls:List Q00) (w:ZB) (hv:Strs w w v ls) (hlen:(CH.join [32] ls).length<=1000000) : ZE prog 71 #[v] w (Ret w (.string ⟨(CH.join [32] ls).toArray⟩)):=by
 obtain⟨a,cap,rfl,hl,hcap,hne⟩:=hv;replace hne:=Aa hne;obtain⟨N,hN⟩:∃ N,ls.length=N:=⟨_,rfl⟩
 rw [hN] at hl ⊢;replace hN:=Aa hN;have HL:=Aa fun (k:Nat)=>Af (Pc [32] (ls.take k) (ls.drop k)) (by rw [D8];exact hlen);obtain⟨R,hR⟩:∃ R,Hid (CH.join [32] ls=R):=⟨_,Aa rfl⟩
 rw [hR.out];go_enter func71,ntmps71;go_wp2_with fail;go_loopw [3,4] (fun s i wr=>∃ (k:Nat) (t:Q00),k<=N/\i=↑k/\s=↑t/\t.length<=1000000/\Hid (t=CH.join [32] (ls.take k))/\Hid (Below w w wr)) (fun _ i _=>N - (ZG i).toNat);case atStart=>exact⟨0,[],Az _,rfl,rfl,sM,Aa rfl,Aa (Ac _ _)⟩
 case round =>
  obtain⟨k,t,hk,rfl,rfl,htl,ht,hBr⟩:=hrel;by_cases hlt:k<N
  ·obtain⟨b,off,rfl,hbl,kj⟩:=hne.out (by intro h;have:=hN.out;simp [h] at this;omega);obtain⟨l,hl'⟩:∃ l,ls[k]?=some l:=⟨_,Ad (by rw [hN.out];exact hlt)⟩
   have e1:wr.cell? ⟨b,off+k,none⟩=some ↑l:=(hBr.out.cell (p:=⟨b,off+k,none⟩) hbl).trans (kj k l hl');have hs:=M5 [32] (ls.take k) l;have htk:ls.take k++[l]=ls.take (k+1):=by rw [D7,hl',Gf]
   rw [htk] at hs;have hL:=HL.out (k+1);clear kj hl';have z0:(0:Int)<=(k:Int):=oM;have zk:((k:Int)).toNat=k:=oM;have hk':(k:Int)<(N:Int):=oM;by_cases hk0:k=0
   ·subst hk0;rw [H6,Au rfl] at hs;have ht0:t=[]:=by rw [ht.out];rfl
    subst ht0;rw [hs] at hL;have hs':=Aa hs.symm;clear hs ht;rw [Ia] at e1;go_wp2_with fail;refine⟨⟨1,l,oM,by go_num,by first|rfl|(rw [show (⟨#[]⟩:ByteArray)=⟨([]:Q00).toArray⟩ from rfl,bytes_append];rfl),hL,hs',hBr⟩,by simp [ZG];omega⟩
   ·have hne0:ls.take k≠[]:=by intro e;have:=congrArg List.length e;rw [C9,hN.out] at this;simp at this;omega
    rw [Ai hne0,<- ht.out] at hs;rw [hs] at hL;have hp:(0:Int)<(k:Int):=oM;have hq:¬ 9223372036854775807<t.length+1+l.length:=by simp only [Ah,A8,Bj] at hL;omega
    have hs':=Aa hs.symm;clear hs ht;go_wp2_with fail;refine⟨⟨k+1,t++([32]++l),oM,by go_num,by rw [show (⟨#[32]⟩:ByteArray)=⟨([32]:Q00).toArray⟩ from rfl,bytes_append,bytes_append,Dv],hL,hs',hBr⟩,by simp [ZG];omega⟩
  ·obtain rfl:k=N:=oM;have htR:t=R:=by rw [ht.out,<- hR.out,Bz (by rw [hN.out];exact Bg _)]
   subst htR;clear ht;go_wp2;go_ret;exact⟨rfl,hBr.out⟩
theorem Duo {k:Int} (h:dK k s=true):1<=k/\k<=4:=by
 unfold dK at h;simp only [Ba,Eb,F9,Cb,ne_eq,Bq] at h;obtain⟨⟨h1,h2⟩,h3⟩:=h;have hz:CH.slen k s≠0:=fun e=>by rw [bT k 12 s e] at h2;exact h2 rfl
 apply Gp;intro hk;apply hz;unfold CH.slen;rw [Ai oM,Ai oM,Ai oM,Ai oM]
theorem F27 {n:Q05} (h:bP n=true):1<=n.script/\n.script<=4:=by
 unfold bP at h;simp only [Ba,Bq] at h;obtain⟨h1,h2,h3⟩:=h;cases hw:n.words with
 |nil=>rw [hw] at h2;simp at h2
 |cons x l=>exact Duo (Df.1 h1 x (by rw [hw];simp))
theorem Xm (n:Q05) (v:ZC) (w:ZB) (hv:Strs w w v n.words) (hl:∀ l∈n.words,l.length<=1000000) (h:bP n=true) (hlen:(aV n).length<=1000000) : ZE prog 204 #[.agg #[↑n.script,v]] w (Ret w (.tuple #[.string ⟨(aV n).toArray⟩,.int .i64 0])):=by
 have V:=Aa fun (W:ZB) (hb:Below w w W)=>Vo n v W ((hv.below hb nR).mono hb.size) hl h;have hsc:=F27 h;have T:=Aa fun (W:ZB)=>Cbv n.script W;obtain⟨R,hR⟩:∃ R,Hid (aV n=R):=⟨_,Aa rfl⟩
 rw [hR.out] at hlen ⊢;have hR2:Hid (CH.title n.script++[58]++CH.join [32] n.words=R):=hR;clear h hl hR;generalize n.script=sc at *;generalize n.words=ls at *;obtain⟨a,cap,rfl,hl,hcap,hne⟩:=hv;replace hne:=Aa hne;obtain⟨N,hN⟩:∃ N,ls.length=N:=⟨_,rfl⟩
 rw [hN] at hl V ⊢;replace hN:=Aa hN;have HL:Hid (∀ k:Nat,(CH.title sc++[58]++CH.join [32] (ls.take k)).length<=1000000):=Aa fun k=>by have h1:=Pc [32] (ls.take k) (ls.drop k);rw [D8] at h1;rw [<- hR2.out] at hlen;rw [Ah] at hlen ⊢;omega
 have hB0:=Aa fun o=>(Ac _ w).alloc nR o;go_enter func204,ntmps204;go_wp2_with fail;have B:=hB0.out;generalize hWd:w.alloc _=W at *;have hBW:Below w w W:=by rw [<- hWd];exact B _
 have K:=Aa (Cp (C:=[↑sc,.slice a N cap]) hWd);clear hWd hB0 B;refine CmZ (V.out _ hBW) fun w1 hb1=>?_;have hB1:=hBW.trans (hb1.mono hBW.size);have c0:=K.out w1 hb1 0 _ rfl;clear V;go_wp2_with fail;refine (T.out _).mono ?_;rintro e w2 ⟨hb2,t0,rfl,ht0⟩;have ht0:=Aa (ht0 hsc);have hB2:=hB1.trans (hb2.mono hB1.size);have hb2:=hb1.trans (hb2.mono hb1.size);have hB2:=Aa hB2;have hb2:=Aa hb2;clear T hBW hb1 hB1 c0 hsc;go_wp2_with fail;go_loopw [4,5] (fun sv iv wr=>∃ (k:Nat) (t:Q00),k<=N/\iv=↑k/\sv=↑t/\t.length<=1000000/\Hid (t=CH.title sc++[58]++CH.join [32] (ls.take k))/\Hid (Below w w wr)/\Hid (Below W W wr)) (fun _ iv _=>N - (ZG iv).toNat);case atStart=>exact⟨0,t0,Az _,rfl,rfl,by have:=HL.out 0;rw [ht0.out];simpa [CH.join] using this,Aa (by rw [ht0.out];simp [CH.join]),hB2,hb2⟩
 case round =>
  obtain⟨k,t,hk,rfl,rfl,htl,ht,hBr,hb⟩:=hrel;have c1:=K.out wr hb.out 1 _ rfl;by_cases hlt:k<N
  ·obtain⟨b,off,rfl,hbl,kj⟩:=hne.out (by intro h;have:=hN.out;simp [h] at this;omega);obtain⟨l,hl'⟩:∃ l,ls[k]?=some l:=⟨_,Ad (by rw [hN.out];exact hlt)⟩
   have e1:wr.cell? ⟨b,off+k,none⟩=some ↑l:=(hBr.out.cell (p:=⟨b,off+k,none⟩) hbl).trans (kj k l hl');have hs:=M5 [32] (ls.take k) l;have htk:ls.take k++[l]=ls.take (k+1):=by rw [D7,hl',Gf]
   rw [htk] at hs;have hL:=HL.out (k+1);clear kj hl';have z0:(0:Int)<=(k:Int):=oM;have zk:((k:Int)).toNat=k:=oM;have hk':(k:Int)<(N:Int):=oM;by_cases hk0:k=0
   ·subst hk0;rw [H6,Au rfl] at hs;have ht1:CH.title sc++[58]++CH.join [32] (ls.take (0+1))=t++l:=by rw [hs,ht.out];simp [CH.join]
    rw [ht1] at hL;have hs':=Aa ht1.symm;have hq:¬ 9223372036854775807<t.length+l.length:=by rw [Ah] at hL;omega
    clear hs ht ht1;rw [Ia] at e1;go_wp2_with fail;refine⟨⟨1,t++l,oM,by go_num,by rw [bytes_append],hL,hs',hBr,hb⟩,by simp [ZG];omega⟩
   ·have hne0:ls.take k≠[]:=by intro e;have:=congrArg List.length e;rw [C9,hN.out] at this;simp at this;omega
    rw [Ai hne0] at hs;have ht1:CH.title sc++[58]++CH.join [32] (ls.take (k+1))=t++([32]++l):=by rw [hs,ht.out];simp
    rw [ht1] at hL;have hp:(0:Int)<(k:Int):=oM;have hq:¬ 9223372036854775807<t.length+1+l.length:=by simp only [Ah,A8,Bj] at hL;omega
    have hs':=Aa ht1.symm;clear hs ht ht1;go_wp2_with fail;refine⟨⟨k+1,t++([32]++l),oM,by go_num,by rw [show (⟨#[32]⟩:ByteArray)=⟨([32]:Q00).toArray⟩ from rfl,bytes_append,bytes_append,Dv],hL,hs',hBr,hb⟩,by simp [ZG];omega⟩
  ·obtain rfl:k=N:=oM;have htR:t=R:=by rw [ht.out,<- hR2.out,Bz (by rw [hN.out];exact Bg _)]
   subst htR;clear ht;go_wp2;refine Aj (Aq rfl _ _ _) rfl ?_;exact⟨rfl,hBr.out⟩
theorem Lnb (c:UInt8):CH.isHex c=(ZH ((48:Int)<=(c.toNat:Int))&&ZH ((c.toNat:Int)<=57)||ZH ((97:Int)<=(c.toNat:Int))&&ZH ((c.toNat:Int)<=102)):=by
 have h:∀ n:Fin 256,CH.isHex (UInt8.ofNat n.val)=(ZH ((48:Int)<=(n.val:Int))&&ZH ((n.val:Int)<=57)||ZH ((97:Int)<=(n.val:Int))&&ZH ((n.val:Int)<=102)):=by decide +kernel
 have:=h ⟨c.toNat,Fb c⟩;exact FD159
theorem To (c:UInt8) (w:ZB):ZE prog 119 #[.int .u8 c.toNat] w (fun e w'=>Below w w w'/\∃ d:Int,e=.returned ↑d/\ZH (d<0)=(!CH.isHex c)/\(CH.isHex c=true->d=(CH.hexVal c:Nat))):=by
 have hc:=Fb c;have hV:Hid (CH.hexVal c=if c.toNat<97 then c.toNat - 48 else c.toNat - 87):=Aa rfl;generalize CH.hexVal c=V at *;rw [Lnb];generalize c.toNat=n at *;by_cases h1:48<=n/\n<=57
 ·have e1:ZH ((48:Int)<=(n:Int))=true:=Am oM;have e2:ZH ((n:Int)<=57)=true:=Am oM;have q:IntKind.u8.wrap ((n:Int) - 48)=(n:Int) - 48:=by rw [IntKind.wrap_u8];omega
  have q2:IntKind.i64.wrap ((n:Int) - 48)=(n:Int) - 48:=by rw [IntKind.wrap_i64];omega
  have hd:ZH ((n:Int) - 48<0)=false:=Ak oM;rw [e1,e2];go_enter func119,ntmps119;go_wp2;go_ret;exact⟨Ac _ _,_,rfl,by rw [hd];rfl,fun _=>by rw [hV.out,Au oM];omega⟩
 ·by_cases h2:97<=n/\n<=102
  ·have e1:ZH ((48:Int)<=(n:Int))=true:=Am oM;have e2:ZH ((n:Int)<=57)=false:=Ak oM;have e3:ZH ((97:Int)<=(n:Int))=true:=Am oM;have e4:ZH ((n:Int)<=102)=true:=Am oM;have q:IntKind.u8.wrap ((n:Int) - 97)=(n:Int) - 97:=by rw [IntKind.wrap_u8];omega
   have q2:IntKind.i64.wrap ((n:Int) - 97)=(n:Int) - 97:=by rw [IntKind.wrap_i64];omega
   have q3:IntKind.i64.wrap ((n:Int) - 97+10)=(n:Int) - 97+10:=by rw [IntKind.wrap_i64];omega
   have hd:ZH ((n:Int) - 97+10<0)=false:=Ak oM;rw [e1,e2,e3,e4];go_enter func119,ntmps119;go_wp2;go_ret;exact⟨Ac _ _,_,rfl,by rw [hd];rfl,fun _=>by rw [hV.out,Ai oM];omega⟩
  ·have hx:(ZH ((48:Int)<=(n:Int))&&ZH ((n:Int)<=57)||ZH ((97:Int)<=(n:Int))&&ZH ((n:Int)<=102))=false:=by
    rw [Gt];constructor;·simp;omega
    ·simp;omega
   rw [hx];clear hx;rcases (oM:n<48\/(58<=n/\n<97)\/102<n) with h3|h3|h3;·have e1:ZH ((48:Int)<=(n:Int))=false:=Ak oM;have e3:ZH ((97:Int)<=(n:Int))=false:=Ak oM;exact FD109
   ·have e1:ZH ((48:Int)<=(n:Int))=true:=Am oM;have e2:ZH ((n:Int)<=57)=false:=Ak oM;have e3:ZH ((97:Int)<=(n:Int))=false:=Ak oM;exact FD109
   ·have e1:ZH ((48:Int)<=(n:Int))=true:=Am oM;have e2:ZH ((n:Int)<=57)=false:=Ak oM;have e3:ZH ((97:Int)<=(n:Int))=true:=Am oM;have e4:ZH ((n:Int)<=102)=false:=Ak oM;exact FD109
theorem Mm (s:Q00) (w:ZB) (hs:s.length<=9223372036854775807):ZE prog 66 #[↑s] w (Ret w (.bool (ay s))):=by
 obtain⟨R,hR⟩:∃ R,Hid (ay s=R):=⟨_,Aa rfl⟩
 rw [hR.out];have D:=Aa fun (c:UInt8) (W:ZB)=>To c W;go_enter func66,ntmps66;go_wp2_with fail;go_loopw [3] (fun i wr=>∃ k:Nat,k<=s.length/\k<=16/\i=↑k/\Hid ((s.take k).all CH.isHex=true)/\Hid (Below w w wr)) (fun i _=>s.length - (ZG i).toNat);case atStart=>exact⟨0,Az _,oM,rfl,Aa rfl,Aa (Ac _ _)⟩
 case round =>
  obtain⟨k,hk,KA,rfl,hI,hB⟩:=hrel;by_cases hlt:k<s.length
  ·have p1:ZH ((k:Int)<(s.length:Int))=true:=Am oM;by_cases hlt2:k<16
   ·have p2:ZH ((k:Int)<16)=true:=Am oM;obtain⟨ch,hch⟩:∃ ch,s[k]?=some ch:=⟨_,Ad hlt⟩
    have hgk:=Hj s k hlt ch hch;have D1:=Aa (D.out ch wr);cases hx:CH.isHex ch with
    |true =>
     have hI2:Hid ((s.take (k+1)).all CH.isHex=true):=Aa (by rw [D7,hch,Gf,Jg,hI.out,a_Bool_true_and,J7,Ns,hx];rfl);rw [hx] at D1;replace hch:=Aa hch;clear hI hx;go_wp2_with fail;refine D1.out.mono ?_;rintro e w1 ⟨hb1,d,rfl,hd,_⟩;rw [Gv] at hd;have hB1:=Aa (hB.out.trans (hb1.mono hB.out.size));go_wp2;go_roundw;case rel=>exact⟨k+1,oM,oM,by go_num,hI2,hB1⟩
     case measure=>simp [ZG];omega
    |false =>
     have hb:R=false:=by rw [<- hR.out];unfold ay;have:s.all CH.isHex=false:=J9.2 ⟨ch,Ap hch,by simp [hx]⟩;rw [this,Ee]
     subst hb;rw [hx] at D1;replace hch:=Aa hch;clear hI hx;go_wp2_with fail;refine D1.out.mono ?_;rintro e w1 ⟨hb1,d,rfl,hd,_⟩;rw [Gy] at hd;exact FD161
   ·have p2:ZH ((k:Int)<16)=false:=Ak oM;have hb:R=false:=by
     rw [<- hR.out];unfold ay;have:(s.length==16)=false:=by simp;omega
     rw [this,Gi]
    subst hb;have p3:((s.length:Int)==16)=false:=by simp;omega
    clear hI;exact FD112
  ·obtain rfl:k=s.length:=oM;have hall:=hI.out;rw [Dn] at hall;have hb:((s.length:Int)==16)=R:=by rw [<- hR.out];unfold ay;rw [hall,Jd,Es,Eb,Eb];omega
   generalize hq:((s.length:Int)==16)=q at *;subst hb;clear hI hall;exact FD112
end
end Go.Proofs.Y

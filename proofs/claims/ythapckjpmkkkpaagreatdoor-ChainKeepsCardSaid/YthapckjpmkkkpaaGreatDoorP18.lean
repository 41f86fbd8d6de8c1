/-
  ChainKeeps: the proof, part 19 of 25.
-/
import Derived.Test.YthapckjpmkkkpaaGreatDoorP17
import Derived.Great.BuildSlice
set_option linter.unusedSimpArgs false
set_option linter.unusedVariables false
set_option maxHeartbeats 40000000
set_option maxRecDepth 100000
open Go renaming World -> ZB, Value -> ZC, Calls -> ZE, TypeId -> ZJ
open Go.Act renaming put -> ZF
open Go.RowKit renaming intOf -> ZG
open Decidable renaming decide -> ZH
open Go.Lib renaming itoa -> ZK
namespace Go.Proofs.YthapckjpmkkkpaaGreatDoor
section
open Go.Lib Go.Proofs.Tryz Go.RowKit Go.Shelf Go.Sort CH
theorem Ins (c:UInt8):CH.isHex c=(ZH ((48:Int)<=(c.toNat:Int))&&ZH ((c.toNat:Int)<=57)||ZH ((97:Int)<=(c.toNat:Int))&&ZH ((c.toNat:Int)<=102)):=by
 have h:∀ n:Fin 256,CH.isHex (UInt8.ofNat n.val)=(ZH ((48:Int)<=(n.val:Int))&&ZH ((n.val:Int)<=57)||ZH ((97:Int)<=(n.val:Int))&&ZH ((n.val:Int)<=102)):=by decide +kernel
 have:=h ⟨c.toNat,F9 c⟩;simpa using this
theorem Uz (c:UInt8) (w:ZB):ZE prog 72 #[.int .u8 c.toNat] w (fun e w'=>Below w w w'/\∃ d:Int,e=.returned ↑d/\ZH (d<0)=!CH.isHex c):=by
 have hc:=F9 c;rw [Ins];generalize c.toNat=n at *;by_cases h1:48<=n/\n<=57
 ·have e1:ZH ((48:Int)<=(n:Int))=true:=Az oM;have e2:ZH ((n:Int)<=57)=true:=Az oM;have q:IntKind.u8.wrap ((n:Int) - 48)=(n:Int) - 48:=by rw [IntKind.wrap_u8];omega
  have q2:IntKind.i64.wrap ((n:Int) - 48)=(n:Int) - 48:=by rw [IntKind.wrap_i64];omega
  have hd:ZH ((n:Int) - 48<0)=false:=Aq oM;rw [e1,e2];go_enter func72,ntmps72;go_wp2;go_ret;exact⟨Ac _ _,_,rfl,by rw [hd];rfl⟩
 ·by_cases h2:97<=n/\n<=102
  ·have e1:ZH ((48:Int)<=(n:Int))=true:=Az oM;have e2:ZH ((n:Int)<=57)=false:=Aq oM;have e3:ZH ((97:Int)<=(n:Int))=true:=Az oM;have e4:ZH ((n:Int)<=102)=true:=Az oM;have q:IntKind.u8.wrap ((n:Int) - 97)=(n:Int) - 97:=by rw [IntKind.wrap_u8];omega
   have q2:IntKind.i64.wrap ((n:Int) - 97)=(n:Int) - 97:=by rw [IntKind.wrap_i64];omega
   have q3:IntKind.i64.wrap ((n:Int) - 97+10)=(n:Int) - 97+10:=by rw [IntKind.wrap_i64];omega
   have hd:ZH ((n:Int) - 97+10<0)=false:=Aq oM;rw [e1,e2,e3,e4];go_enter func72,ntmps72;go_wp2;go_ret;exact⟨Ac _ _,_,rfl,by rw [hd];rfl⟩
  ·have hx:(ZH ((48:Int)<=(n:Int))&&ZH ((n:Int)<=57)||ZH ((97:Int)<=(n:Int))&&ZH ((n:Int)<=102))=false:=by
    rw [Gh];constructor;·simp;omega
    ·simp;omega
   rw [hx];clear hx;rcases (oM:n<48\/(58<=n/\n<97)\/102<n) with h3|h3|h3;·have e1:ZH ((48:Int)<=(n:Int))=false:=Aq oM;have e3:ZH ((97:Int)<=(n:Int))=false:=Aq oM;go_enter func72,ntmps72;go_wp2;go_ret;exact⟨Ac _ _,_,rfl,rfl⟩
   ·have e1:ZH ((48:Int)<=(n:Int))=true:=Az oM;have e2:ZH ((n:Int)<=57)=false:=Aq oM;have e3:ZH ((97:Int)<=(n:Int))=false:=Aq oM;go_enter func72,ntmps72;go_wp2;go_ret;exact⟨Ac _ _,_,rfl,rfl⟩
   ·have e1:ZH ((48:Int)<=(n:Int))=true:=Az oM;have e2:ZH ((n:Int)<=57)=false:=Aq oM;have e3:ZH ((97:Int)<=(n:Int))=true:=Az oM;have e4:ZH ((n:Int)<=102)=false:=Aq oM;go_enter func72,ntmps72;go_wp2;go_ret;exact⟨Ac _ _,_,rfl,rfl⟩
theorem Bsu (s:List UInt8) (w:ZB) (hs:s.length<=9223372036854775807):ZE prog 35 #[↑s] w (Ret w (.bool (aG s))):=by
 obtain⟨R,hR⟩:∃ R,Hid (aG s=R):=⟨_,Aa rfl⟩
 rw [hR.out];have D:=Aa fun (c:UInt8) (W:ZB)=>Uz c W;go_enter func35,ntmps35;go_wp2_with fail;go_loopw [3] (fun i wr=>∃ k:Nat,k<=s.length/\k<=16/\i=↑k/\Hid ((s.take k).all CH.isHex=true)/\Hid (Below w w wr)) (fun i _=>s.length - (ZG i).toNat);case atStart=>exact⟨0,Bg _,oM,rfl,Aa rfl,Aa (Ac _ _)⟩
 case round =>
  obtain⟨k,hk,FC,rfl,hI,hB⟩:=hrel;by_cases hlt:k<s.length
  ·have p1:ZH ((k:Int)<(s.length:Int))=true:=Az oM;by_cases hlt2:k<16
   ·have p2:ZH ((k:Int)<16)=true:=Az oM;obtain⟨ch,hch⟩:∃ ch,s[k]?=some ch:=⟨_,Ad hlt⟩
    have hgk:=K8 s k hlt ch hch;have D1:=Aa (D.out ch wr);cases hx:CH.isHex ch with
    |true =>
     have hI2:Hid ((s.take (k+1)).all CH.isHex=true):=Aa (by rw [Eo,hch,Gv,Ij,hI.out,a_Bool_true_and,Jh,Nj,hx];rfl);rw [hx] at D1;replace hch:=Aa hch;clear hI hx;go_wp2_with fail;refine D1.out.mono ?_;rintro e w1 ⟨hb1,d,rfl,hd⟩;rw [Ji] at hd;have hB1:=Aa (hB.out.trans (hb1.mono hB.out.size));go_wp2;go_roundw;case rel=>exact⟨k+1,oM,oM,by go_num,hI2,hB1⟩
     case measure=>simp [ZG];omega
    |false =>
     have hb:R=false:=by rw [<- hR.out];unfold aG;have:s.all CH.isHex=false:=Jo.2 ⟨ch,Ap hch,by simp [hx]⟩;rw [this,Bool.and_false]
     subst hb;rw [hx] at D1;replace hch:=Aa hch;clear hI hx;go_wp2_with fail;refine D1.out.mono ?_;rintro e w1 ⟨hb1,d,rfl,hd⟩;rw [Bool.not_false] at hd;have hB1:=Aa (hB.out.trans (hb1.mono hB.out.size));go_wp2;go_ret;exact⟨rfl,hB1.out⟩
   ·have p2:ZH ((k:Int)<16)=false:=Aq oM;have hb:R=false:=by
     rw [<- hR.out];unfold aG;have:(s.length==16)=false:=by simp;omega
     rw [this,Bool.false_and]
    subst hb;have p3:((s.length:Int)==16)=false:=by simp;omega
    clear hI;go_wp2;go_ret;exact⟨rfl,hB.out⟩
  ·obtain rfl:k=s.length:=oM;have hall:=hI.out;rw [Dx] at hall;have hb:((s.length:Int)==16)=R:=by rw [<- hR.out];unfold aG;rw [hall,Lp,F8,Dl,Dl];omega
   generalize hq:((s.length:Int)==16)=q at *;subst hb;clear hI hall;go_wp2;go_ret;exact⟨rfl,hB.out⟩
theorem M7 (n:Int) (w:ZB):ZE prog 137 #[↑n] w (Ret w (.bool (bg n))):=by unfold bg;generalize e1:ZH (0<=n)=b1;generalize e2:ZH (n<=144001439)=b2;cases b1 <;> cases b2;all_goals go_enter func137,ntmps137;go_wp2;go_ret;exact⟨rfl,Ac _ _⟩
theorem U0 (n:Int) (w:ZB):ZE prog 206 #[↑n] w (Ret w (.bool (CH.within n 100000))):=by unfold CH.within;generalize e1:ZH (0<=n)=b1;generalize e2:ZH (n<=100000)=b2;cases b1 <;> cases b2;all_goals go_enter func206,ntmps206;go_wp2;go_ret;exact⟨rfl,Ac _ _⟩
def iC (s:List UInt8):List UInt8:=if s==[] then [45] else s
theorem Sf (s:List UInt8) (w:ZB):ZE prog 38 #[↑s] w (Ret w (.string ⟨(iC s).toArray⟩)):=by
 by_cases h:s=[]
 ·subst h;go_enter func38,ntmps38;go_wp2;go_ret;exact⟨rfl,Ac _ _⟩
 ·have hb:(s==[])=false:=by simpa using h
  have he:iC s=s:=by unfold iC;rw [hb];rfl
  rw [he];have hs:((⟨s.toArray⟩:ByteArray)==⟨#[]⟩)=false:=by rw [show (#[]:Array UInt8)=([]:List UInt8).toArray from rfl,Cy];exact hb
  go_enter func38,ntmps38;go_wp2;go_ret;exact⟨rfl,Ac _ _⟩
theorem M2 (sep:List UInt8):∀ (l:List (List UInt8)) (x:List UInt8),CH.join sep (l++[x])=if l=[] then x else CH.join sep l++(sep++x)
 |[],_=>rfl
 |[y],x=>by simp [CH.join]
 |y::z::l,x=>by
  have:=M2 sep (z::l) x
  simp only [Dq,reduceCtorEq,Na] at this ⊢
  simp only [CH.join]
  rw [this]
  simp
theorem Od (sep:List UInt8):∀ (l r:List (List UInt8)),(CH.join sep l).length<=(CH.join sep (l++r)).length
 |l,[]=>by rw [Gw];exact Bv _
 |l,x::r=>by
  have h1:=Od sep (l++[x]) r
  rw [D9,List.singleton_append] at h1
  refine Ag ?_ h1
  rw [M2]
  split
  ·rename_i e
   rw [e]
   exact Bg _
  ·simp
theorem O0 (v:ZC) (ls:List (List UInt8)) (w:ZB) (hv:Strs w w v ls) (hlen:(CH.join [32] ls).length<=1000000) : ZE prog 36 #[v] w (Ret w (.string ⟨(CH.join [32] ls).toArray⟩)):=by
 obtain⟨a,cap,rfl,hl,hcap,hne⟩:=hv;replace hne:=Aa hne;obtain⟨N,hN⟩:∃ N,ls.length=N:=⟨_,rfl⟩
 rw [hN] at hl ⊢;replace hN:=Aa hN;have HL:=Aa fun (k:Nat)=>Ag (Od [32] (ls.take k) (ls.drop k)) (by rw [F7];exact hlen);obtain⟨R,hR⟩:∃ R,Hid (CH.join [32] ls=R):=⟨_,Aa rfl⟩
 rw [hR.out];go_enter func36,ntmps36;go_wp2_with fail;go_loopw [3,4] (fun s i wr=>∃ (k:Nat) (t:List UInt8),k<=N/\i=↑k/\s=↑t/\t.length<=1000000/\Hid (t=CH.join [32] (ls.take k))/\Hid (Below w w wr)) (fun _ i _=>N - (ZG i).toNat);case atStart=>exact⟨0,[],Bg _,rfl,rfl,sM,Aa rfl,Aa (Ac _ _)⟩
 case round =>
  obtain⟨k,t,hk,rfl,rfl,htl,ht,hBr⟩:=hrel;by_cases hlt:k<N
  ·obtain⟨b,off,rfl,hbl,hcells⟩:=hne.out (by intro h;have:=hN.out;simp [h] at this;omega);obtain⟨l,hl'⟩:∃ l,ls[k]?=some l:=⟨_,Ad (by rw [hN.out];exact hlt)⟩
   have e1:wr.cell? ⟨b,off+k,none⟩=some ↑l:=(hBr.out.cell (p:=⟨b,off+k,none⟩) hbl).trans (hcells k l hl');have hs:=M2 [32] (ls.take k) l;have htk:ls.take k++[l]=ls.take (k+1):=by rw [Eo,hl',Gv]
   rw [htk] at hs;have hL:=HL.out (k+1);clear hcells hl';have z0:(0:Int)<=(k:Int):=oM;have zk:((k:Int)).toNat=k:=oM;have hk':(k:Int)<(N:Int):=oM;by_cases hk0:k=0
   ·subst hk0;rw [H7,Aw rfl] at hs;have ht0:t=[]:=by rw [ht.out];rfl
    subst ht0;rw [hs] at hL;have hs':=Aa hs.symm;clear hs ht;rw [Hl] at e1;go_wp2_with fail;refine⟨⟨1,l,oM,by go_num,by first|rfl|(rw [show (⟨#[]⟩:ByteArray)=⟨([]:List UInt8).toArray⟩ from rfl,bytes_append];rfl),hL,hs',hBr⟩,by simp [ZG];omega⟩
   ·have hne0:ls.take k≠[]:=by intro e;have:=congrArg List.length e;rw [Dy,hN.out] at this;simp at this;omega
    rw [Ak hne0,<- ht.out] at hs;rw [hs] at hL;have hp:(0:Int)<(k:Int):=oM;have hq:¬ 9223372036854775807<t.length+1+l.length:=by simp only [Aj,Ar,Bo] at hL;omega
    have hs':=Aa hs.symm;clear hs ht;go_wp2_with fail;refine⟨⟨k+1,t++([32]++l),oM,by go_num,by rw [show (⟨#[32]⟩:ByteArray)=⟨([32]:List UInt8).toArray⟩ from rfl,bytes_append,bytes_append,D9],hL,hs',hBr⟩,by simp [ZG];omega⟩
  ·obtain rfl:k=N:=oM;have htR:t=R:=by rw [ht.out,<- hR.out,Di (by rw [hN.out];exact Bv _)]
   subst htR;clear ht;go_wp2;go_ret;exact⟨rfl,hBr.out⟩
theorem Zg (k:Int) (w:ZB):ZE prog 201 #[↑k] w (fun e w'=>Below w w w'/\∃ t:List UInt8,e=.returned ↑t/\(1<=k/\k<=4->t=CH.title k++[58])):=by
 by_cases h1:k=1;·subst h1;go_enter func201,ntmps201;go_wp2;go_ret;exact⟨Ac _ _,_,rfl,fun _=>rfl⟩
 ·have e1:(k==1)=false:=by simpa using h1
  by_cases h2:k=2;·subst h2;go_enter func201,ntmps201;go_wp2;go_ret;exact⟨Ac _ _,_,rfl,fun _=>rfl⟩
  ·have e2:(k==2)=false:=by simpa using h2
   by_cases h3:k=3;·subst h3;go_enter func201,ntmps201;go_wp2;go_ret;exact⟨Ac _ _,_,rfl,fun _=>rfl⟩
   ·have e3:(k==3)=false:=by simpa using h3
    go_enter func201,ntmps201;go_wp2;go_ret;refine⟨Ac _ _,_,rfl,fun h=>?_⟩;obtain rfl:k=4:=oM;rfl
theorem E6b (s:List UInt8) (w:ZB):ZE prog 289 #[↑s] w (Ret w (.bool (CH.isKey s))):=by
 by_cases hk:s∈[[111,114],[97,110,100],[110,111,116],[116,114,117,101],[102,97,108,115,101]]
 ·have e:CH.isKey s=true:=by unfold CH.isKey;exact List.contains_iff_mem.2 hk
  rw [e];clear e;simp only [A8,Ba,Dh] at hk;rcases hk with rfl|rfl|rfl|rfl|rfl;all_goals go_enter func289,ntmps289;go_wp2;go_ret;exact⟨rfl,Ac _ _⟩
 ·have e:CH.isKey s=false:=by unfold CH.isKey;rw [<- Bool.not_eq_true];exact fun h=>hk (List.contains_iff_mem.1 h)
  rw [e];clear e;simp only [A8,Ba,Dh,Ky] at hk;obtain⟨k1,k2,k3,k4,k5⟩:=hk;go_enter func289,ntmps289;go_wp2;have q1:(s==[111,114])=false:=by simpa using k1
  have q2:(s==[97,110,100])=false:=by simpa using k2
  have q3:(s==[110,111,116])=false:=by simpa using k3
  have q4:(s==[116,114,117,101])=false:=by simpa using k4
  have q5:(s==[102,97,108,115,101])=false:=by simpa using k5
  rw [q1,q2,q3,q4,q5];go_ret;exact⟨rfl,Ac _ _⟩
end
section
open Go.Lib Go.Proofs.Tryz Go.RowKit Go.Shelf Go.Sort CH
attribute [local irreducible] wpQuiet
theorem Err (c:UInt8) (h:CH.tailB c=true):(97<=c.toNat/\c.toNat<=122)\/(65<=c.toNat/\c.toNat<=90)\/(CH.letterB c=false/\48<=c.toNat/\c.toNat<=57)\/(CH.letterB c=false/\c.toNat=95):=by
 unfold CH.tailB at h;cases hl:CH.letterB c with
 |true =>unfold CH.letterB at hl;simp at hl;omega
 |false =>
  rw [hl,J5,Dw,Am,Bq,Bq,Dl] at h;rcases h with h|h;·exact .inr (.inr (.inl ⟨rfl,h⟩))
  ·exact .inr (.inr (.inr ⟨rfl,by rw [h];rfl⟩))
theorem Re {s:List UInt8} (h:CH.isName s=true):1<=s.length/\s.length<=24/\∀ k ch,s[k]?=some ch->CH.tailB ch=true/\(k=0->CH.letterB ch=true):=by
 unfold CH.isName at h;split at h;·cases h
 ·rename_i c l;simp only [Am,Bq] at h;obtain⟨⟨h1,h2⟩,h3⟩:=h;have ht:CH.tailB c=true:=by unfold CH.tailB;rw [h1];rfl
  refine⟨sM,h3,fun k ch hk=>?_⟩;cases k with
  |zero =>simp only [Fp,Eu] at hk;subst hk;exact⟨ht,fun _=>h1⟩
  |succ k =>simp only [Fq] at hk;exact⟨Dt.1 h2 ch (Ap hk),fun e=>by omega⟩
theorem Hk (s:List UInt8) (w:ZB) (h:CH.isName s=true):ZE prog 135 #[↑s] w (Ret w (.bool true)):=by
 obtain⟨p1,p2,hb⟩:=Re h;have hb:=Aa hb;clear h;have q1:ZH ((s.length:Int)<1)=false:=Aq oM;have q2:ZH ((24:Int)<(s.length:Int))=false:=Aq oM;go_enter func135,ntmps135;go_wp2_with fail;go_loopw [3] (fun i wr=>∃ k:Nat,k<=s.length/\i=↑k/\Hid (Below w w wr)) (fun i _=>s.length - (ZG i).toNat);case atStart=>exact⟨0,Bg _,rfl,Aa (Ac _ _)⟩
 case round =>
  obtain⟨k,hk,rfl,hB⟩:=hrel;by_cases hlt:k<s.length
  ·obtain⟨ch,hch⟩:∃ ch,s[k]?=some ch:=⟨_,Ad hlt⟩
   have hgk:=K8 s k hlt ch hch;obtain⟨ht,hf⟩:=hb.out k ch hch;have hc:=Err ch ht;have hn0:CH.letterB ch=false->0<k:=fun e=>by
    rcases Nat.eq_zero_or_pos k with h|h;·rw [hf h] at e;cases e
    ·exact h
   clear hch ht hf;rcases hc with⟨h1,h2⟩|⟨h1,h2⟩|⟨h0,h1,h2⟩|⟨h0,h1⟩
   ·have e1:ZH ((97:Int)<=(ch.toNat:Int))=true:=Az oM;have e2:ZH ((ch.toNat:Int)<=122)=true:=Az oM;clear hn0;go_wp2;go_roundw;case rel=>exact⟨k+1,oM,by go_num,hB⟩
    case measure=>simp [ZG];omega
   ·have e1:ZH ((97:Int)<=(ch.toNat:Int))=false:=Aq oM;have e3:ZH ((65:Int)<=(ch.toNat:Int))=true:=Az oM;have e4:ZH ((ch.toNat:Int)<=90)=true:=Az oM;clear hn0;go_wp2;go_roundw;case rel=>exact⟨k+1,oM,by go_num,hB⟩
    case measure=>simp [ZG];omega
   ·have h0:=hn0 h0;have e0:((k:Int)==0)=false:=by simp;omega
    have e1:ZH ((97:Int)<=(ch.toNat:Int))=false:=Aq oM;have e3:ZH ((65:Int)<=(ch.toNat:Int))=false:=Aq oM;have e5:((ch.toNat:Int) != 95)=true:=by simp;omega
    have e6:ZH ((ch.toNat:Int)<48)=false:=Aq oM;have e7:ZH ((57:Int)<(ch.toNat:Int))=false:=Aq oM;clear hn0;go_wp2;go_roundw;case rel=>exact⟨k+1,oM,by go_num,hB⟩
    case measure=>simp [ZG];omega
   ·have h0:=hn0 h0;have e0:((k:Int)==0)=false:=by simp;omega
    have e1:ZH ((97:Int)<=(ch.toNat:Int))=false:=Aq oM;have e3:ZH ((65:Int)<=(ch.toNat:Int))=true:=Az oM;have e4:ZH ((ch.toNat:Int)<=90)=false:=Aq oM;have e5:((ch.toNat:Int) != 95)=false:=by simp;omega
    clear hn0 h1;go_wp2;go_roundw;case rel=>exact⟨k+1,oM,by go_num,hB⟩
    case measure=>simp [ZG];omega
  ·obtain rfl:k=s.length:=oM;go_wp2;go_ret;exact⟨rfl,hB.out⟩
theorem Wo:∀ (l:List (List UInt8)),fH l=true->∀ (j k:Nat) (x y:List UInt8),l[j]?=some x->l[k]?=some y->j<k->(x==y)=false
 |[],_,j,k,x,y,hj,_,_=>by simp at hj
 |z::l,h,0,k+1,x,y,hj,hk,_=>by
  simp only [fH,Am,Ea,Fp,Fq,Eu] at h hj hk
  subst hj
  rw [<- Bool.not_eq_true,Dl]
  rintro rfl
  have:=h.1
  rw [Lj,Es] at this
  exact this (Ap hk)
 |z::l,h,j+1,k+1,x,y,hj,hk,hlt=>by
  simp only [fH,Am,Fq] at h hj hk
  exact Wo l h.2 j k x y hj hk oM
theorem O4 (v:ZC) (ls:List (List UInt8)) (most:Int) (w:ZB) (hv:Strs w w v ls) (h:aY ls=true) (hm:(ls.length:Int)<=most) : ZE prog 136 #[v,↑most] w (Ret w (.bool true)):=by
 unfold aY at h;rw [Am] at h;have HN:=Aa fun (k:Nat) (x:List UInt8) (hk:ls[k]?=some x) (W:ZB)=>Hk x W (Dt.1 h.1 x (Ap hk));have HT:=Aa (Wo ls h.2);clear h;obtain⟨a,cap,rfl,hl,hcap,hne⟩:=hv;replace hne:=Aa hne;obtain⟨N,hN⟩:∃ N,ls.length=N:=⟨_,rfl⟩
 rw [hN] at hl hm ⊢;replace hN:=Aa hN;have IJ:ZH ((N:Int)<=most)=true:=Az hm;go_enter func136,ntmps136;go_wp2_with fail;go_loopw [5] (fun i wr=>∃ k:Nat,k<=N/\i=↑k/\Hid (Below w w wr)) (fun i _=>N - (ZG i).toNat);case atStart=>exact⟨0,Bg _,rfl,Aa (Ac _ _)⟩
 case round =>
  obtain⟨k,hk,rfl,hB⟩:=hrel;by_cases hlt:k<N
  ·obtain⟨b,off,rfl,hbl,hcells⟩:=hne.out (by intro h;have:=hN.out;simp [h] at this;omega);obtain⟨l,hl'⟩:∃ l,ls[k]?=some l:=⟨_,Ad (by rw [hN.out];exact hlt)⟩
   have e1:wr.cell? ⟨b,off+k,none⟩=some ↑l:=(hB.out.cell (p:=⟨b,off+k,none⟩) hbl).trans (hcells k l hl');have z0:(0:Int)<=(k:Int):=oM;have zk:((k:Int)).toNat=k:=oM;have hk':(k:Int)<(N:Int):=oM;have C:=Aa (HN.out k l hl');have HTk:=Aa fun (j:Nat) (x:List UInt8) (hj:ls[j]?=some x) (hlt:j<k)=>HT.out j k x l hj hl' hlt;replace hcells:=Aa hcells;replace hl':=Aa hl';go_wp2_with fail;refine (C.out _).mono ?_;rintro e w1 ⟨rfl,hb1⟩;have hB1:=Aa (hB.out.trans (hb1.mono hB.out.size));clear C e1 hB;go_wp2_with fail;go_loopw [6] (fun i wr=>∃ j:Nat,j<=k/\i=↑j/\Hid (Below w w wr)) (fun i _=>k - (ZG i).toNat);case atStart=>exact⟨0,Bg _,rfl,hB1⟩
   case round =>
    obtain⟨j,hj,rfl,hB⟩:=hrel;by_cases hlj:j<k
    ·obtain⟨x,hx⟩:∃ x,ls[j]?=some x:=⟨_,Ad (by rw [hN.out];omega)⟩
     have e1:=(hB.out.cell (p:=⟨b,off+j,none⟩) hbl).trans (hcells.out j x hx);have e2:=(hB.out.cell (p:=⟨b,off+k,none⟩) hbl).trans (hcells.out k l hl'.out);have g1:=@Ae _ _ _ e1;have g2:=@Ae _ _ _ e2;have EH:=HTk.out j x hx hlj;have hxl:((⟨x.toArray⟩:ByteArray)==⟨l.toArray⟩)=false:=by rw [Cy];exact EH
     have y0:(0:Int)<=(j:Int):=oM;have yk:((j:Int)).toNat=j:=oM;have hj':(j:Int)<(N:Int):=oM;clear hx;go_wp2_with fail;refine Bd kR kR ?_;repeat (quiet_step (fail))
     refine C9 ?_;intro wq hbq;replace hbq:=At hbq;clear g1 g2;have hB2:=Aa (hB.out.trans (hbq.mono hB.out.size));clear hbq e1 e2 hB;go_wp2;go_roundw;case rel=>exact⟨j+1,oM,by go_num,hB2⟩
     case measure=>simp [ZG];omega
    ·obtain rfl:j=k:=oM;go_wp2;go_roundw;case rel=>exact⟨j+1,oM,by go_num,hB⟩
     case measure=>simp [ZG];omega
  ·obtain rfl:k=N:=oM;go_wp2;go_ret;exact⟨rfl,hB.out⟩
theorem Cp {w W:ZB} {C:List ZC} {T:ZJ} (hW:w.alloc (.cells C.toArray T)=W) (W':ZB) (hb:Below W W W'):∀ i u,C[i]?=some u->W'.cell? ⟨w,i,none⟩=some u:=by subst hW;have h1:=(hb.block w sM).trans (Ai w _);exact fun i u hi=>(Ab h1 i).trans (by simpa using hi)
theorem Ux (l:gy) (vm vp:ZC) (w:ZB) (h1:Strs w w vm l.measures) (h2:Strs w w vp l.aK) (h:aP l=true) : ZE prog 77 #[.agg (Bu l vm vp).toArray] w (Ret w (.bool true)):=by
 unfold aP CH.within at h;simp only [Am,Bq] at h;obtain⟨⟨⟨⟨⟨⟨k1,⟨k2,k3⟩,⟨k4,k5⟩,k6⟩,k7,k8⟩,k9,k10⟩,k11,k12⟩,k13,k14⟩,k15⟩:=h;have hB0:=Aa fun o=>(Ac _ w).alloc nR o;have T0:=Aa fun (W:ZB)=>Hk l.id W k1;have T1:=Aa fun (W:ZB) (hb:Below w w W)=>O4 vm l.measures 12 W ((h1.below hb nR).mono hb.size) k2 oM;have T2:=Aa fun (W:ZB) (hb:Below w w W)=>O4 vp l.aK 60 W ((h2.below hb nR).mono hb.size) k3 oM;have I:=fun (n:Int) (a:0<=n) (b:n<=144001439) (W:ZB)=>M7 n W;have J:∀ n:Int,0<=n->n<=144001439->bg n=true:=fun n a b=>by unfold bg;rw [decide_eq_true a,decide_eq_true b];rfl
 have I1:=Aa fun (W:ZB)=>M7 l.start W;have I2:=Aa fun (W:ZB)=>M7 l.aB W;rw [J _ k11 k12] at I1;rw [J _ k13 k14] at I2;clear I J;obtain⟨_,_,rfl,_,_⟩:=h1.form;obtain⟨_,_,rfl,_,_⟩:=h2.form;clear h1 h2 k1 k2 k3;generalize l.measures.length=n1 at *;generalize l.aK.length=n2 at *;dsimp only [Bu,ay,aJ] at *;have q1:ZH ((n1:Int)<1)=false:=Aq oM;have q3:ZH (0<=l.quota)=true:=Az k7;have q4:ZH (l.quota<=1000000000)=true:=Az k8;have q5:ZH (0<=l.uses)=true:=Az k9;have q6:ZH (l.uses<=1000)=true:=Az k10;have q7:ZH (l.start<l.aB)=true:=Az k15;clear k4 k5 k6 k7 k8 k9 k10 k11 k12 k13 k14 k15;go_enter func77,ntmps77;go_wp2_with fail;have B:=hB0.out;generalize hWd:w.alloc _=W at *;have hBW:Below w w W:=by rw [<- hWd];exact B _
 have K:=Aa (Cp hWd);clear hWd hB0 B;refine (T0.out _).mono ?_;rintro e w1 ⟨rfl,hb1⟩;have hB1:=hBW.trans (hb1.mono hBW.size);have c1:=K.out w1 hb1 1 _ rfl;clear T0;go_wp2_with fail;refine (T1.out _ hB1).mono ?_;rintro e w2 ⟨rfl,hb2⟩;have hB2:=hB1.trans (hb2.mono hB1.size);have hb2:=hb1.trans (hb2.mono hb1.size);have c2:=K.out w2 hb2 2 _ rfl;clear T1 c1;go_wp2_with fail;refine (T2.out _ hB2).mono ?_;rintro e w3 ⟨rfl,hb3⟩;have hB3:=hB2.trans (hb3.mono hB2.size);have hb3:=hb2.trans (hb3.mono hb2.size);have c3:=K.out w3 hb3 3 _ rfl;have c4:=K.out w3 hb3 4 _ rfl;have c5:=K.out w3 hb3 5 _ rfl;clear T2 c2;go_wp2_with fail;refine (I1.out _).mono ?_;rintro e w4 ⟨rfl,hb4⟩;have hB4:=hB3.trans (hb4.mono hB3.size);have hb4:=hb3.trans (hb4.mono hb3.size);have d6:=K.out w4 hb4 6 _ rfl;clear I1 c3 c4 c5;go_wp2_with fail;refine (I2.out _).mono ?_;rintro e w5 ⟨rfl,hb5⟩;have hB5:=hB4.trans (hb5.mono hB4.size);have hb5:=hb4.trans (hb5.mono hb4.size);have e5:=K.out w5 hb5 5 _ rfl;have e6:=K.out w5 hb5 6 _ rfl;clear I2 K d6;go_wp2;go_ret;exact⟨rfl,hB5⟩
end
section
open Go.Lib Go.Proofs.Tryz Go.RowKit Go.Shelf Go.Sort CH
attribute [local irreducible] wpQuiet
theorem Rq (d:Nat) (h:d<10):(ByteArray.mk #[48,49,50,51,52,53,54,55,56,57]).extract d (d+1)=⟨[UInt8.ofNat (48+d)].toArray⟩:=by
 have:∀ d:Fin 10,(ByteArray.mk #[48,49,50,51,52,53,54,55,56,57]).extract d.val (d.val+1)=⟨[UInt8.ofNat (48+d.val)].toArray⟩:=by decide +kernel
 exact this ⟨d,h⟩
theorem Hb4 (m:Nat):Int.tmod (m:Int) 10=((m % 10:Nat):Int):=by rw [Int.tmod_eq_emod_of_nonneg oM];omega
theorem Hb5 (m:Nat):Int.tdiv (m:Int) 10=((m / 10:Nat):Int):=by rw [Int.tdiv_eq_ediv_of_nonneg oM];omega
def pre (m:Nat):List UInt8:=if m=0 then [] else Lib.decDigits m
theorem Byd (m:Nat) (h:0<m):Lib.decDigits m=pre (m / 10)++[UInt8.ofNat (48+m % 10)]:=by
 unfold pre;rw [Lib.decDigits];by_cases h10:m<10;·rw [dif_pos h10,Aw oM,Ld h10];rfl
 ·rw [dif_neg h10,Ak oM]
theorem V8 (m:Nat):Lib.decDigits m=pre (m / 10)++[UInt8.ofNat (48+m % 10)]:=by
 rcases Nat.eq_zero_or_pos m with h|h;·subst h;rw [Lib.decDigits];rfl
 ·exact Byd m h
theorem Xi (n:Nat) (w:ZB) (hn:n<9223372036854775808) : ZE prog 129 #[.int .u64 n] w (Ret w (.string ⟨(Lib.decDigits n).toArray⟩)):=by
 have hlen:(Lib.decDigits n).length<=20:=by rw [Lib.decDigits_length];exact Lib.nDigits_le20 n oM
 have hst:=V8 n;obtain⟨R,hR⟩:∃ R,Lib.decDigits n=R:=⟨_,rfl⟩
 rw [hR] at hlen hst ⊢;have m1:=Hb4 n;have m2:=Hb5 n;have d1:n % 10<10:=J7 _ oM;have d2:n / 10<9223372036854775808:=oM;have hsl:=Rq (n % 10) d1;generalize UInt8.ofNat (48+n % 10)=c at *;generalize n % 10=d at *;generalize n / 10=q at *;replace hst:=Aa hst;replace hlen:=Aa hlen;clear hR;go_enter func129,ntmps129;go_wp2;go_loopw [0,3] (fun nv sv wr=>∃ (m:Nat) (t:List UInt8),m<9223372036854775808/\nv=.int .u64 m/\sv=↑t/\t.length<=20/\Hid (R=pre m++t)/\wr=w) (fun nv _ _=>(ZG nv).toNat);case atStart=>exact⟨q,[c],d2,rfl,rfl,sM,hst,rfl⟩
 case round =>
  clear m1 m2 hsl hst;obtain⟨m,t,hm,rfl,rfl,htl,hR,rfl⟩:=hrel;by_cases h0:m=0
  ·subst h0;have hRt:R=t:=by rw [hR.out];rfl
   subst hRt;clear hR;go_wp2;go_ret;exact⟨rfl,Ac _ _⟩
  ·have hst:R=pre (m / 10)++(UInt8.ofNat (48+m % 10)::t):=by have:=hR.out;unfold pre at this;rw [Ak h0,Byd m oM] at this;rw [this];simp
   have hl2:=congrArg List.length hst;rw [Aj,Ar] at hl2;have hl3:t.length+1<=20:=by have:=hlen.out;omega
   have m1:=Hb4 m;have m2:=Hb5 m;have d1:m % 10<10:=J7 _ oM;have d2:m / 10<m:=oM;have hsl:=Rq (m % 10) d1;have hp:(0:Int)<(m:Int):=oM;have hq:¬ 9223372036854775807<1+t.length:=oM;generalize UInt8.ofNat (48+m % 10)=c at *;generalize m % 10=d at *;generalize m / 10=q at *;replace hst:=Aa hst;clear hR hl2;go_wp2;go_roundw;case rel=>exact⟨q,c::t,oM,rfl,by rw [show (⟨#[c]⟩:ByteArray)=⟨[c].toArray⟩ from rfl,bytes_append];rfl,hl3,hst,by first|rfl|trivial⟩
   case measure=>simp [ZG];omega
theorem F0 (n:Int) (w:ZB) (h0:0<=n) (h1:n<=9223372036854775807) : ZE prog 73 #[↑n] w (Ret w (.string ⟨(ZK n).toArray⟩)):=by
 obtain⟨m,rfl⟩:=Int.eq_ofNat_of_zero_le h0;have e:ZK (m:Int)=Lib.decDigits m:=by unfold ZK;rw [if_neg oM];simp
 rw [e];have D:=Aa (Xi m w oM);have q:ZH ((m:Int)<0)=false:=Aq oM;have q2:IntKind.u64.wrap (m:Int)=(m:Int):=by rw [Iq];omega
 generalize Lib.decDigits m=ds at *;clear e;go_enter func73,ntmps73;go_wp2_with fail;refine D.out.mono ?_;rintro e w1 ⟨rfl,hb1⟩;clear D;go_wp2;go_ret;exact⟨rfl,hb1⟩
def dh (n:Int):List UInt8:=if n = -1 then [45] else ZK n
theorem Cf (n:Int) (w:ZB) (h0:-1<=n) (h1:n<=9223372036854775807) : ZE prog 37 #[↑n] w (Ret w (.string ⟨(dh n).toArray⟩)):=by
 unfold dh;by_cases hn:n = -1;·subst hn;rw [Aw rfl];go_enter func37,ntmps37;go_wp2;go_ret;exact⟨rfl,Ac _ _⟩
 ·rw [Ak hn];have D:=Aa (F0 n w oM h1);have q:(n==-1)=false:=by simpa using hn
  generalize ZK n=ds at *;go_enter func37,ntmps37;go_wp2_with fail;refine D.out.mono ?_;rintro e w1 ⟨rfl,hb1⟩;clear D;go_wp2;go_ret;exact⟨rfl,hb1⟩
end
section
open Go.Lib Go.Proofs.Tryz Go.RowKit Go.Shelf Go.Sort CH
attribute [local irreducible] wpQuiet
theorem Q6 (s:List UInt8) (i:Nat) (set:List UInt8) (w:ZB) (hs:s.length<=1000000) (hset:set.length<=1000) : ZE prog 321 #[↑s,↑i,↑set] w (Ret w (.bool (CH.isIn s i set))):=by
 by_cases hi:i<s.length
 ·obtain⟨ch,hch⟩:∃ ch,s[i]?=some ch:=⟨_,Ad hi⟩
  have e:CH.isIn s i set=set.contains ch:=by unfold CH.isIn;rw [hch]
  rw [e];clear e;have hgk:=K8 s i hi ch hch;clear hch;obtain⟨R,hR⟩:∃ R,Hid (set.contains ch=R):=⟨_,Aa rfl⟩
  rw [hR.out];obtain⟨N,hN⟩:∃ N,Hid (set.length=N):=⟨_,Aa rfl⟩
  have q0:ZH (s.length<=i)=false:=Aq oM;go_enter func321,ntmps321;go_wp2_with fail;go_loopw [7] (fun iv wr=>∃ k:Nat,k<=set.length/\iv=↑k/\Hid ((set.take k).contains ch=false)/\Hid (Below w w wr)) (fun iv _=>set.length - (ZG iv).toNat);case atStart=>exact⟨0,Bg _,rfl,Aa sM,Aa (Ac _ _)⟩
  case round =>
   obtain⟨k,hk,rfl,hI,hB⟩:=hrel;by_cases hlt:k<set.length
   ·obtain⟨c2,hc2⟩:∃ c2,set[k]?=some c2:=⟨_,Ad hlt⟩
    have hgj:=K8 set k hlt c2 hc2;have hd:((c2.toNat:Int)==(ch.toNat:Int))=(ch==c2):=by
     rw [F8,Dl,Dl];constructor;·intro h;exact UInt8.toNat_inj.1 oM
     ·intro h;rw [h]
    have hsn:(set.take (k+1)).contains ch=(ch==c2):=by
     have e1:(set.take k++[c2]).contains ch=((set.take k).contains ch||ch==c2):=by rw [F8];simp
     rw [Eo,hc2,Gv,e1,hI.out,J5]
    have hyes:(ch==c2)=true->R=true:=fun h=>by rw [<- hR.out,List.contains_iff_mem,Dl.1 h];exact Ap hc2
    replace hsn:=Aa hsn;replace hyes:=Aa hyes;clear hI hc2;generalize (ch==c2)=b at *;cases b with
    |true =>
     obtain rfl:=hyes.out rfl;clear hyes hsn;go_wp2_with fail;refine Bd kR kR ?_;repeat (quiet_step (fail))
     refine C9 ?_;intro wq hbq;replace hbq:=At hbq;have hB2:=hB.out.trans (hbq.mono hB.out.size);go_wp2;go_ret;exact⟨rfl,hB2⟩
    |false =>
     clear hyes;go_wp2_with fail;refine Bd kR kR ?_;repeat (quiet_step (fail))
     refine C9 ?_;intro wq hbq;replace hbq:=At hbq;have hB2:=Aa (hB.out.trans (hbq.mono hB.out.size));go_wp2;go_roundw;case rel=>exact⟨k+1,oM,by go_num,hsn,hB2⟩
     case measure=>simp [ZG];omega
   ·obtain rfl:k=set.length:=oM;have hr:R=false:=by have:=hI.out;rw [Dx] at this;rw [<- hR.out,this]
    subst hr;clear hI;go_wp2;go_ret;exact⟨rfl,hB.out⟩
 ·have e:CH.isIn s i set=false:=by unfold CH.isIn;rw [List.getElem?_eq_none oM]
  rw [e];clear e;have q0:ZH ((s.length:Int)<=(i:Int))=true:=Az oM;go_enter func321,ntmps321;go_wp2;go_ret;exact⟨rfl,Ac _ _⟩
theorem Ino (s:List UInt8) (i j:Nat) (set:List UInt8):CH.isIn (s.drop i) j set=CH.isIn s (i+j) set:=by unfold CH.isIn;rw [Ic]
theorem Ch2:∀ n:Fin 256,(CH.smalls.contains (UInt8.ofNat n.val)||CH.smalls.contains (UInt8.ofNat n.val+32)&&ZH (65<=(UInt8.ofNat n.val).toNat)&&ZH ((UInt8.ofNat n.val).toNat<=90))=([97,98,99,100,101,102,103,104,105,106,107,108,109,110,111,112,113,114,115,116,117,118,119,120,121,122,65,66,67,68,69,70,71,72,73,74,75,76,77,78,79,80,81,82,83,84,85,86,87,88,89,90]:List UInt8).contains (UInt8.ofNat n.val):=by decide +kernel
theorem All (s:List UInt8) (i:Nat):eu (s.drop i)=CH.isIn s i [97,98,99,100,101,102,103,104,105,106,107,108,109,110,111,112,113,114,115,116,117,118,119,120,121,122,65,66,67,68,69,70,71,72,73,74,75,76,77,78,79,80,81,82,83,84,85,86,87,88,89,90]:=by
 unfold eu CH.isIn;rw [Ic,Hl];cases s[i]? with
 |none=>rfl
 |some c =>have:=Ch2 ⟨c.toNat,F9 c⟩;simp only [UInt8.ofNat_toNat] at this;exact this
theorem Baz:∀ n:Fin 256,([97,105,117,101,111]:List UInt8).contains (UInt8.ofNat n.val)=true->([107,115,116,110,104,109,121,114,119,103,122,100,98,112]:List UInt8).contains (UInt8.ofNat n.val)=false:=by decide +kernel
theorem Ggk {s:List UInt8} {i:Nat} (h:CH.isIn s i [97,105,117,101,111]=true):CH.isIn s i [107,115,116,110,104,109,121,114,119,103,122,100,98,112]=false:=by
 unfold CH.isIn at *;cases hc:s[i]? with
 |none=>rfl
 |some c =>rw [hc] at h;have:=Baz ⟨c.toNat,F9 c⟩;simp only [UInt8.ofNat_toNat] at this;exact this h
theorem Hw1 (k:Int) (s:List UInt8) (i:Nat):CH.slen k (s.drop i) = if k=1 then (if CH.isIn s i CH.smalls then 1 else 0) else if k=2 then (if CH.isIn s i [97,98,99,100,101,102,103,104,105,106,107,108,109,110,111,112,113,114,115,116,117,118,119,120,121,122,65,66,67,68,69,70,71,72,73,74,75,76,77,78,79,80,81,82,83,84,85,86,87,88,89,90] then (if CH.isIn s (i+1) [39,96,94] then 2 else 1) else 0) else if k=3 then (if CH.isIn s i ([98,100,102,103,104,106,107,108,109,110,112,113,114,115,116,119,120,121,122,39]:List UInt8) then 1 else 0) else if k=4 then (if CH.isIn s i [97,105,117,101,111] then 1 else if CH.isIn s i [107,115,116,110,104,109,121,114,119,103,122,100,98,112]&&CH.isIn s (i+1) [97,105,117,101,111] then 2 else if CH.isIn s i [110] then 1 else 0) else 0:=by
 unfold CH.slen;simp only [Ino,All,Hl];by_cases h1:k=1;·rw [Aw h1,Aw h1]
 rw [Ak h1,Ak h1];by_cases h2:k=2;·rw [Aw h2,Aw h2]
 rw [Ak h2,Ak h2];by_cases h3:k=3;·rw [Aw h3,Aw h3]
 rw [Ak h3,Ak h3];by_cases h4:k=4
 ·rw [Aw h4,Aw h4];cases hv:CH.isIn s i [97,105,117,101,111] with
  |true =>have:=Ggk hv;rw [this];rfl
  |false =>rw [J5];rfl
 rw [Ak h4,Ak h4]
theorem Xh (k:Int) (s:List UInt8) (i:Nat) (w:ZB) (hs:s.length<=1000000) (hi:i<=1000000) : ZE prog 306 #[↑k,↑s,↑i] w (Ret w (.int .i64 (CH.slen k (s.drop i)))):=by
 have hsl:=Hw1 k s i;obtain⟨R,hR⟩:∃ R:Nat,CH.slen k (s.drop i)=R:=⟨_,rfl⟩
 rw [hR] at hsl ⊢;clear hR;have A:=Aa fun (set:List UInt8) (h:set.length<=1000) (W:ZB)=>Q6 s i set W hs h;have A':=Aa fun (W:ZB)=>Q6 s (i+1) [39,96,94] W hs dC;have A'':=Aa fun (W:ZB)=>Q6 s (i+1) [97,105,117,101,111] W hs dC;by_cases h1:k=1
 ·subst h1;have C:=Aa (A.out CH.smalls dC);clear A A' A'';rw [Aw rfl] at hsl;unfold CH.smalls at *;generalize CH.isIn s i _=b at *;replace hsl:=Aa hsl;go_enter func306,ntmps306;go_wp2_with fail;refine (C.out _).mono ?_;rintro e w1 ⟨rfl,hb1⟩;cases b;·obtain rfl:=hsl.out;go_wp2;go_ret;exact⟨rfl,hb1⟩
  ·obtain rfl:=hsl.out;go_wp2;go_ret;exact⟨rfl,hb1⟩
 by_cases h2:k=2
 ·subst h2;have C:=Aa (A.out [97,98,99,100,101,102,103,104,105,106,107,108,109,110,111,112,113,114,115,116,117,118,119,120,121,122,65,66,67,68,69,70,71,72,73,74,75,76,77,78,79,80,81,82,83,84,85,86,87,88,89,90] dC);clear A A'';rw [Ak dC,Aw rfl] at hsl;generalize CH.isIn s i _=b at *;generalize CH.isIn s (i+1) _=b' at *;replace hsl:=Aa hsl;go_enter func306,ntmps306;go_wp2_with fail;refine (C.out _).mono ?_;rintro e w1 ⟨rfl,hb1⟩;cases b;·obtain rfl:=hsl.out;go_wp2;go_ret;exact⟨rfl,hb1⟩
  ·go_wp2_with fail;refine (A'.out _).mono ?_;rintro e w2 ⟨rfl,hb2⟩;cases b';·obtain rfl:=hsl.out;go_wp2;go_ret;exact⟨rfl,hb1.trans (hb2.mono hb1.size)⟩
   ·obtain rfl:=hsl.out;go_wp2;go_ret;exact⟨rfl,hb1.trans (hb2.mono hb1.size)⟩
 by_cases h3:k=3
 ·subst h3;have C:=Aa (A.out ([98,100,102,103,104,106,107,108,109,110,112,113,114,115,116,119,120,121,122,39]:List UInt8) dC);clear A A' A'';rw [Ak dC,Ak dC,Aw rfl] at hsl;generalize CH.isIn s i _=b at *;replace hsl:=Aa hsl;go_enter func306,ntmps306;go_wp2_with fail;refine (C.out _).mono ?_;rintro e w1 ⟨rfl,hb1⟩;cases b;·obtain rfl:=hsl.out;go_wp2;go_ret;exact⟨rfl,hb1⟩
  ·obtain rfl:=hsl.out;go_wp2;go_ret;exact⟨rfl,hb1⟩
 by_cases h4:k=4
 ·subst h4;have C1:=Aa (A.out [97,105,117,101,111] dC);have C2:=Aa (A.out [107,115,116,110,104,109,121,114,119,103,122,100,98,112] dC);have C3:=Aa (A.out [110] dC);clear A A';rw [Ak dC,Ak dC,Ak dC,Aw rfl] at hsl;generalize CH.isIn s i [97,105,117,101,111]=b1 at *;generalize CH.isIn s i [107,115,116,110,104,109,121,114,119,103,122,100,98,112]=b2 at *;generalize CH.isIn s i [110]=b3 at *;generalize CH.isIn s (i+1) _=b4 at *;replace hsl:=Aa hsl;go_enter func306,ntmps306;go_wp2_with fail;refine (C1.out _).mono ?_;rintro e w1 ⟨rfl,hb1⟩;cases b1
  ·go_wp2_with fail;refine (C2.out _).mono ?_;rintro e w2 ⟨rfl,hb2⟩;have hB2:=hb1.trans (hb2.mono hb1.size);cases b2
   ·go_wp2_with fail;refine (C3.out _).mono ?_;rintro e w3 ⟨rfl,hb3⟩;cases b3;·obtain rfl:=hsl.out;go_wp2;go_ret;exact⟨rfl,hB2.trans (hb3.mono hB2.size)⟩
    ·obtain rfl:=hsl.out;go_wp2;go_ret;exact⟨rfl,hB2.trans (hb3.mono hB2.size)⟩
   ·go_wp2_with fail;refine (A''.out _).mono ?_;rintro e w3 ⟨rfl,hb3⟩;have hB3:=hB2.trans (hb3.mono hB2.size);cases b4
    ·go_wp2_with fail;refine (C3.out _).mono ?_;rintro e w4 ⟨rfl,hb4⟩;cases b3;·obtain rfl:=hsl.out;go_wp2;go_ret;exact⟨rfl,hB3.trans (hb4.mono hB3.size)⟩
     ·obtain rfl:=hsl.out;go_wp2;go_ret;exact⟨rfl,hB3.trans (hb4.mono hB3.size)⟩
    ·obtain rfl:=hsl.out;go_wp2;go_ret;exact⟨rfl,hB3⟩
  ·obtain rfl:=hsl.out;go_wp2;go_ret;exact⟨rfl,hb1⟩
 ·have e1:(k==1)=false:=by simpa using h1
  have e2:(k==2)=false:=by simpa using h2
  have e3:(k==3)=false:=by simpa using h3
  have e4:(k==4)=false:=by simpa using h4
  clear A A' A'';rw [Ak h1,Ak h2,Ak h3,Ak h4] at hsl;subst hsl;go_enter func306,ntmps306;go_wp2;go_ret;exact⟨rfl,Ac _ _⟩
end
section
open Go.Lib Go.Proofs.Tryz Go.RowKit Go.Shelf Go.Sort CH
attribute [local irreducible] wpQuiet
def Mnw (w:ZB) (e:Ending) (w':ZB):Prop:=∃ v,e=.returned (.tuple #[v,.int .i64 0])/\Below w w w'
theorem Xg (k:Int) (s:List UInt8) (w:ZB) (hs:s.length<=1000000) (h:dX k s=true) : ZE prog 288 #[↑k,↑s] w (Mnw w):=by
 unfold dX at h;obtain⟨ls,hl⟩:∃ ls,(CH.letters k 13 s).1=ls:=⟨_,rfl⟩
 simp only [Am,Dl,Ea,Gx,ne_eq,Bq,hl] at h;obtain⟨⟨h1,h2⟩,h3⟩:=h;have h0:CH.letters k 13 s=(ls,[]):=by rw [<- hl,<- h1]
 have hls:1<=ls.length:=by
  rcases Nat.eq_zero_or_pos ls.length with h|h;·exact absurd (Df.1 h) h2
  ·exact h
 clear h1 h2 hl;have h0:=Aa h0;have L:=Aa fun (i:Nat) (hi:i<=1000000) (W:ZB)=>Xh k s i W hs hi;obtain⟨M,hM⟩:∃ M,Hid (ls.length=M):=⟨_,Aa rfl⟩
 rw [hM.out] at h3 hls;go_enter func288,ntmps288;go_wp2_with fail;go_loopw [6,7] (fun ov iv wr=>∃ (p j:Nat),p<=s.length/\j<=M/\iv=↑p/\Hid (∃ lo,Ay w wr ov lo/\lo.length=j)/\Hid (CH.letters k (13 - j) (s.drop p)=(ls.drop j,[]))/\Hid (Below w w wr)) (fun _ iv _=>s.length - (ZG iv).toNat);case atStart=>exact⟨0,0,Bg _,Bg _,rfl,Aa ⟨[],Ay.nil _ _,rfl⟩,h0,Aa (Ac _ _)⟩
 case round =>
  obtain⟨p,j,hp,hj,rfl,⟨lo,hO,hlo⟩,hI,hB⟩:=hrel;obtain⟨av,cv,rfl,hf1,hf2,_⟩:=hO.form;have hlo2:=Aa hlo;rw [hlo] at hf1 hO ⊢;by_cases hlt:p<s.length
  ·have hne:s.drop p≠[]:=fun e=>by have:=congrArg List.length e;rw [Ei,Bo] at this;omega
   have zK:13 - j=(12 - j)+1:=oM;have hI2:=hI.out;rw [zK] at hI2;have hz:CH.slen k (s.drop p)≠0:=fun e=>by rw [bC k _ _ e] at hI2;exact hne (Prod.mk.inj hI2).2
   rw [eG k _ _ hz] at hI2;have hle:=nI k (s.drop p);rw [Ei] at hle;obtain⟨hx,hy⟩:=Prod.mk.inj hI2;obtain⟨d,hd⟩:∃ d,CH.slen k (s.drop p)=d:=⟨_,rfl⟩
   have L1:=Aa (L.out p oM wr);rw [hd] at hx hy hle L1 hz;have hjM:j<M:=by have:=congrArg List.length hx;rw [Ar,Ei,hM.out] at this;omega
   have hnx:Hid (CH.letters k (13 - (j+1)) (s.drop (p+d))=(ls.drop (j+1),[])):=Aa (by
    rw [List.drop_drop] at hx hy;have e1:(CH.letters k (12 - j) (s.drop (p+d))).1=ls.drop (j+1):=by have:=congrArg List.tail hx;rw [List.tail_cons,List.tail_drop] at this;exact this
    rw [show 13 - (j+1)=12 - j from by omega,<- e1,<- hy])
   have hO:=Aa hO;have hsz:=hB.out.size;have qz:((d:Int)==0)=false:=by simp;omega
   have q12:((j:Int)==12)=false:=by simp;omega
   clear hI hI2 hx hy hd hne zK;go_wp2_with fail;refine L1.out.mono ?_;rintro e w1 ⟨rfl,hb1⟩;have hO1:=hO.out.below hb1;have hB1:=hB.out.trans (hb1.mono hB.out.size);have hs1:=hB1.size;clear L1 hb1;have z0:(0:Int)<=(p:Int):=oM;have z1:(p:Int)<=(p:Int)+(d:Int):=oM;have z2:(p:Int)+(d:Int)<=(s.length:Int):=oM;have hex:(ByteArray.mk s.toArray).extract p (p+d)=⟨((s.drop p).take d).toArray⟩:=by rw [Fy,He]
   go_wp2_with (at_builtin;refine Cs rfl _ _ rfl w _ lo rfl (hO1.alloc _) w1.heap.size 1 ((s.drop p).take d) rfl ?c1 ?c2 ?c3 ?_)
   case c1=>rw [Cj _ _ _ _ rfl];rfl
   case c2=>have:=hlo2.out;omega
   case c3=>simp;omega
   intro v3 w3 hO3 hg3 _;have hB4:Hid (Below w w w3):=Aa ((hB1.alloc oM _).grown hg3 (by simp;omega) (fun j hj=>(D7 hO1 j hj).1));have hO4:Hid (∃ lo,Ay w w3 v3 lo/\lo.length=j+1):=Aa ⟨_,hO3,by rw [Aj,hlo2.out];rfl⟩;clear hO3 hg3;go_wp2;go_roundw;case rel=>exact⟨p+d,j+1,oM,oM,by go_num,hO4,hnx,hB4⟩
   case measure=>simp [ZG];omega
  ·obtain rfl:p=s.length:=oM;have hjM:j=M:=by
    have:=hI.out;rw [List.drop_length] at this;have hx:(CH.letters k (13 - j) []).1=[]:=by
     cases h:13 - j with
     |zero=>rfl
     |succ n=>rw [bC k n [] (by have:=nI k [];simp at this;exact this)]
    rw [this] at hx;have:=congrArg List.length hx;rw [Ei,hM.out] at this;simp at this;omega
   subst hjM;have q0:((j:Int)==0)=false:=by simp;omega
   clear hI;go_wp2;refine Au (Bc rfl _ _ _) rfl ?_;exact⟨_,rfl,hB.out⟩
theorem Exp (k:Int) (s:List UInt8) (w:ZB) (hs:s.length<=1000000) (h:dX k s=true) : ZE prog 256 #[↑k,↑s] w (Ret w (.bool true)):=by have L:=Xg k s w hs h;go_enter func256,ntmps256;go_wp2_with fail;refine L.mono ?_;rintro e w1 ⟨v,rfl,hb1⟩;clear L;go_wp2;go_ret;exact⟨rfl,hb1⟩
theorem R3 (n:CH.Name) (v:ZC) (w:ZB) (hv:Strs w w v n.words) (hl:∀ l∈n.words,l.length<=1000000) (h:bU n=true) : ZE prog 200 #[.agg #[↑n.script,v]] w (Ret w (.bool true)):=by
 unfold bU at h;simp only [Am,Bq] at h;obtain⟨h1,h2,h3⟩:=h;have C:=Aa fun (k:Nat) (x:List UInt8) (hk:n.words[k]?=some x) (W:ZB)=>Exp n.script x W (hl x (Ap hk)) (Dt.1 h1 x (Ap hk));clear h1 hl;generalize n.words=ls at *;generalize n.script=sc at *;obtain⟨a,cap,rfl,hl,hcap,hne⟩:=hv;replace hne:=Aa hne;obtain⟨N,hN⟩:∃ N,ls.length=N:=⟨_,rfl⟩
 rw [hN] at hl h2 h3 ⊢;replace hN:=Aa hN;have q1:ZH ((1:Int)<=(N:Int))=true:=Az oM;have q2:ZH ((N:Int)<=6)=true:=Az oM;have hB0:=Aa fun o=>(Ac _ w).alloc nR o;go_enter func200,ntmps200;go_wp2_with fail;have B:=hB0.out;generalize hWd:w.alloc _=W at *;have hBW:Below w w W:=by rw [<- hWd];exact B _
 have K:=Aa (Cp (C:=[↑sc,.slice a N cap]) hWd);have hlW:w.heap.size<W.heap.size:=by rw [<- hWd];simp
 clear hWd hB0 B;go_loopw [3] (fun iv wr=>∃ k:Nat,k<=N/\iv=↑k/\Hid (Below W W wr)) (fun iv _=>N - (ZG iv).toNat);case atStart=>exact⟨0,Bg _,rfl,Aa (Ac _ _)⟩
 case round =>
  obtain⟨k,hk,rfl,hB⟩:=hrel;have c0:=K.out wr hB.out 0 _ rfl;have c1:=K.out wr hB.out 1 _ rfl;by_cases hlt:k<N
  ·obtain⟨b,off,rfl,hbl,hcells⟩:=hne.out (by intro h;have:=hN.out;simp [h] at this;omega);obtain⟨l,hl'⟩:∃ l,ls[k]?=some l:=⟨_,Ad (by rw [hN.out];exact hlt)⟩
   have e1:wr.cell? ⟨b,off+k,none⟩=some ↑l:=((hBW.trans (hB.out.mono hBW.size)).cell (p:=⟨b,off+k,none⟩) hbl).trans (hcells k l hl');have D:=Aa fun (W:ZB)=>C.out k l hl' W;have z0:(0:Int)<=(k:Int):=oM;have zk:((k:Int)).toNat=k:=oM;have hk':(k:Int)<(N:Int):=oM;have g0:=@Ae _ _ _ c0;have g1:=@Ae _ _ _ c1;have g2:=@Ae _ _ _ e1;clear hcells hl';go_wp2_with fail;refine Bd kR kR ?_;repeat (quiet_step ((with_reducible exact Bj (D.out _))))
   refine C9 ?_;intro wq hbq;replace hbq:=At hbq;clear g0 g1 g2 D;have hB2:=Aa (hB.out.trans (hbq.mono hB.out.size));clear hbq e1 c0 c1 hB;go_wp2;go_roundw;case rel=>exact⟨k+1,oM,by go_num,hB2⟩
   case measure=>simp [ZG];omega
  ·obtain rfl:k=N:=oM;go_wp2;go_ret;exact⟨rfl,hBW.trans (hB.out.mono hBW.size)⟩
end
section
open Go.Lib Go.Proofs.Tryz Go.RowKit Go.Shelf Go.Sort CH
attribute [local irreducible] wpQuiet
theorem Bar {k:Int} {s:List UInt8} (h:dX k s=true):1<=k/\k<=4:=by
 unfold dX at h;simp only [Am,Dl,Ea,Gx,ne_eq,Bq] at h;obtain⟨⟨h1,h2⟩,h3⟩:=h;have hz:CH.slen k s≠0:=fun e=>by rw [bC k 12 s e] at h2;exact h2 rfl
 apply Classical.byContradiction;intro hk;apply hz;unfold CH.slen;rw [Ak oM,Ak oM,Ak oM,Ak oM]
theorem Cap {n:CH.Name} (h:bU n=true):1<=n.script/\n.script<=4:=by
 unfold bU at h;simp only [Am,Bq] at h;obtain⟨h1,h2,h3⟩:=h;cases hw:n.words with
 |nil=>rw [hw] at h2;simp at h2
 |cons x l=>exact Bar (Dt.1 h1 x (by rw [hw];simp))
theorem Uw (n:CH.Name) (v:ZC) (w:ZB) (hv:Strs w w v n.words) (hl:∀ l∈n.words,l.length<=1000000) (h:bU n=true) (hlen:(aT n).length<=1000000) : ZE prog 131 #[.agg #[↑n.script,v]] w (Ret w (.tuple #[.string ⟨(aT n).toArray⟩,.int .i64 0])):=by
 have V:=Aa fun (W:ZB) (hb:Below w w W)=>R3 n v W ((hv.below hb nR).mono hb.size) hl h;have hsc:=Cap h;have T:=Aa fun (W:ZB)=>Zg n.script W;obtain⟨R,hR⟩:∃ R,Hid (aT n=R):=⟨_,Aa rfl⟩
 rw [hR.out] at hlen ⊢;have hR2:Hid (CH.title n.script++[58]++CH.join [32] n.words=R):=hR;clear h hl hR;generalize n.script=sc at *;generalize n.words=ls at *;obtain⟨a,cap,rfl,hl,hcap,hne⟩:=hv;replace hne:=Aa hne;obtain⟨N,hN⟩:∃ N,ls.length=N:=⟨_,rfl⟩
 rw [hN] at hl V ⊢;replace hN:=Aa hN;have HL:Hid (∀ k:Nat,(CH.title sc++[58]++CH.join [32] (ls.take k)).length<=1000000):=Aa fun k=>by have h1:=Od [32] (ls.take k) (ls.drop k);rw [F7] at h1;rw [<- hR2.out] at hlen;rw [Aj] at hlen ⊢;omega
 have hB0:=Aa fun o=>(Ac _ w).alloc nR o;go_enter func131,ntmps131;go_wp2_with fail;have B:=hB0.out;generalize hWd:w.alloc _=W at *;have hBW:Below w w W:=by rw [<- hWd];exact B _
 have K:=Aa (Cp (C:=[↑sc,.slice a N cap]) hWd);clear hWd hB0 B;refine (V.out _ hBW).mono ?_;rintro e w1 ⟨rfl,hb1⟩;have hB1:=hBW.trans (hb1.mono hBW.size);have c0:=K.out w1 hb1 0 _ rfl;clear V;go_wp2_with fail;refine (T.out _).mono ?_;rintro e w2 ⟨hb2,t0,rfl,ht0⟩;have ht0:=Aa (ht0 hsc);have hB2:=hB1.trans (hb2.mono hB1.size);have hb2:=hb1.trans (hb2.mono hb1.size);have hB2:=Aa hB2;have hb2:=Aa hb2;clear T hBW hb1 hB1 c0 hsc;go_wp2_with fail;go_loopw [4,5] (fun sv iv wr=>∃ (k:Nat) (t:List UInt8),k<=N/\iv=↑k/\sv=↑t/\t.length<=1000000/\Hid (t=CH.title sc++[58]++CH.join [32] (ls.take k))/\Hid (Below w w wr)/\Hid (Below W W wr)) (fun _ iv _=>N - (ZG iv).toNat);case atStart=>exact⟨0,t0,Bg _,rfl,rfl,by have:=HL.out 0;rw [ht0.out];simpa [CH.join] using this,Aa (by rw [ht0.out];simp [CH.join]),hB2,hb2⟩
 case round =>
  obtain⟨k,t,hk,rfl,rfl,htl,ht,hBr,hb⟩:=hrel;have c1:=K.out wr hb.out 1 _ rfl;by_cases hlt:k<N
  ·obtain⟨b,off,rfl,hbl,hcells⟩:=hne.out (by intro h;have:=hN.out;simp [h] at this;omega);obtain⟨l,hl'⟩:∃ l,ls[k]?=some l:=⟨_,Ad (by rw [hN.out];exact hlt)⟩
   have e1:wr.cell? ⟨b,off+k,none⟩=some ↑l:=(hBr.out.cell (p:=⟨b,off+k,none⟩) hbl).trans (hcells k l hl');have hs:=M2 [32] (ls.take k) l;have htk:ls.take k++[l]=ls.take (k+1):=by rw [Eo,hl',Gv]
   rw [htk] at hs;have hL:=HL.out (k+1);clear hcells hl';have z0:(0:Int)<=(k:Int):=oM;have zk:((k:Int)).toNat=k:=oM;have hk':(k:Int)<(N:Int):=oM;by_cases hk0:k=0
   ·subst hk0;rw [H7,Aw rfl] at hs;have ht1:CH.title sc++[58]++CH.join [32] (ls.take (0+1))=t++l:=by rw [hs,ht.out];simp [CH.join]
    rw [ht1] at hL;have hs':=Aa ht1.symm;have hq:¬ 9223372036854775807<t.length+l.length:=by rw [Aj] at hL;omega
    clear hs ht ht1;rw [Hl] at e1;go_wp2_with fail;refine⟨⟨1,t++l,oM,by go_num,by rw [bytes_append],hL,hs',hBr,hb⟩,by simp [ZG];omega⟩
   ·have hne0:ls.take k≠[]:=by intro e;have:=congrArg List.length e;rw [Dy,hN.out] at this;simp at this;omega
    rw [Ak hne0] at hs;have ht1:CH.title sc++[58]++CH.join [32] (ls.take (k+1))=t++([32]++l):=by rw [hs,ht.out];simp
    rw [ht1] at hL;have hp:(0:Int)<(k:Int):=oM;have hq:¬ 9223372036854775807<t.length+1+l.length:=by simp only [Aj,Ar,Bo] at hL;omega
    have hs':=Aa ht1.symm;clear hs ht ht1;go_wp2_with fail;refine⟨⟨k+1,t++([32]++l),oM,by go_num,by rw [show (⟨#[32]⟩:ByteArray)=⟨([32]:List UInt8).toArray⟩ from rfl,bytes_append,bytes_append,D9],hL,hs',hBr,hb⟩,by simp [ZG];omega⟩
  ·obtain rfl:k=N:=oM;have htR:t=R:=by rw [ht.out,<- hR2.out,Di (by rw [hN.out];exact Bv _)]
   subst htR;clear ht;go_wp2;refine Au (Bc rfl _ _ _) rfl ?_;exact⟨rfl,hBr.out⟩
end
section
open Go.Lib Go.Proofs.Tryz Go.RowKit Go.Shelf Go.Sort CH
attribute [local irreducible] wpQuiet
theorem A9 {s:List UInt8} (h:CH.isName s=true):1<=s.length/\s.length<=24:=⟨(Re h).1,(Re h).2.1⟩
theorem Zi (e:CH.Entry) (v:ZC) (w:ZB) (hv:I0 w w v e.names) (hS:∀ n∈e.names,∀ l∈n.words,l.length<=1000000) (h:dU e=true) : ZE prog 198 #[.agg #[↑e.id,v]] w (Ret w (.bool true)):=by
 unfold dU at h;simp only [Am,Bq,Ea,Jm,Bool.not_eq_eq_eq_not,Ji,Ii] at h;obtain⟨h1,h2,h3,h4⟩:=h;have hn:=ig h1;have I:=Aa fun (W:ZB)=>J0 e.id W (by have:=(A9 hn).2;omega);rw [hn] at I;have C:=Aa fun (k:Nat) (x:CH.Name) (hk:e.names[k]?=some x)=>fun (vw:ZC) (W:ZB) (hvw:Strs W W vw x.words)=>R3 x vw W hvw (hS x (Ap hk)) (by simpa using h4 x (Ap hk));clear h1 h4 hn hS;generalize e.names=ls at *;generalize e.id=id at *;obtain⟨a,cap,rfl,hl,hcap,hne⟩:=hv;replace hne:=Aa hne;obtain⟨N,hN⟩:∃ N,ls.length=N:=⟨_,rfl⟩
 rw [hN] at hl h2 h3 ⊢;replace hN:=Aa hN;have q1:ZH ((1:Int)<=(N:Int))=true:=Az oM;have q2:ZH ((N:Int)<=8)=true:=Az oM;have hB0:=Aa fun o=>(Ac _ w).alloc nR o;go_enter func198,ntmps198;go_wp2_with fail;have B:=hB0.out;generalize hWd:w.alloc _=W at *;have hBW:Below w w W:=by rw [<- hWd];exact B _
 have K:=Aa (Cp (C:=[↑id,.slice a N cap]) hWd);clear hWd hB0 B;go_loopw [3] (fun iv wr=>∃ k:Nat,k<=N/\iv=↑k/\Hid (Below W W wr)) (fun iv _=>N - (ZG iv).toNat);case atStart=>exact⟨0,Bg _,rfl,Aa (Ac _ _)⟩
 case round =>
  obtain⟨k,hk,rfl,hB⟩:=hrel;have c0:=K.out wr hB.out 0 _ rfl;have c1:=K.out wr hB.out 1 _ rfl;have hBw:Below w w wr:=hBW.trans (hB.out.mono hBW.size);by_cases hlt:k<N
  ·obtain⟨b,off,rfl,hbl,hcells⟩:=hne.out (by intro h;have:=hN.out;simp [h] at this;omega);obtain⟨n,hn'⟩:∃ n,ls[k]?=some n:=⟨_,Ad (by rw [hN.out];exact hlt)⟩
   obtain⟨vw,d1,d2,d3⟩:=hcells k n hn';have e1:=(hBw.cell (p:=⟨b,off+k*2,none⟩) hbl).trans d1;have e2:=(hBw.cell (p:=⟨b,off+k*2+1,none⟩) hbl).trans d2;have F:=Aa (C.out k n hn' vw wr ((d3.below hBw nR).mono hBw.size));clear hcells d1 d2 hn';obtain⟨vwa,vwc,rfl,_,_⟩:=d3;generalize n.words.length=nw at *;have z0:(0:Int)<=(k:Int):=oM;have zk:((k:Int)).toNat=k:=oM;have hk':(k:Int)<(N:Int):=oM;go_wp2_with fail;refine F.out.mono ?_;rintro e w1 ⟨rfl,hb1⟩;have hB1:Hid (Below W W w1):=Aa (hB.out.trans (hb1.mono hB.out.size));clear F e1 e2 c0 c1 hb1 hBw hB;go_wp2;go_roundw;case rel=>exact⟨k+1,oM,by go_num,hB1⟩
   case measure=>simp [ZG];omega
  ·obtain rfl:k=N:=oM;go_wp2_with fail;refine (I.out _).mono ?_;rintro e w1 ⟨rfl,hb1⟩;have hB1:=hB.out.trans (hb1.mono hB.out.size);have c1:=K.out w1 hB1 1 _ rfl;go_wp2;go_ret;exact⟨rfl,hBW.trans (hB1.mono hBW.size)⟩
theorem Zj (c:CH.Change) (v:ZC) (w:ZB) (hv:I0 w w v c.entry.names) (hS:∀ n∈c.entry.names,∀ l∈n.words,l.length<=1000000) (h:dD c=true) : ZE prog 130 #[.agg (Bb c v).toArray] w (Ret w (.bool true)):=by
 have hid:CH.isName c.id=true/\(1<=c.kind/\c.kind<=4)/\((c.kind=1\/c.kind=3)->c.entry.id=c.id/\dU c.entry=true)/\((c.kind=2\/c.kind=4)->c.entry.id=[]/\c.entry.names.length=0)/\((c.kind=1\/c.kind=2)->bg c.pos=true)/\((c.kind=3\/c.kind=4)->c.pos=0):=by
  unfold dD at h;dsimp only at h;split at h;·cases h
  ·rename_i h1;simp only [Dw,Ea,Bq,Ky,Ii,Int.not_lt] at h1;obtain⟨⟨a1,a2⟩,a3⟩:=h1;refine⟨ig a1,⟨a2,oM⟩,?_⟩;rcases (oM:c.kind=1\/c.kind=2\/c.kind=3\/c.kind=4) with e|e|e|e;all_goals simp [e] at h ⊢;simp_all
 obtain⟨hn,hk,hown,hnone,hdt,hz⟩:=hid;clear h;have I:=Aa fun (W:ZB)=>J0 c.id W (by have:=(A9 hn).2;omega);rw [hn] at I;have hB0:=Aa fun o=>(Ac _ w).alloc nR o;have P:=Aa fun (W:ZB) (hb:Below w w W) (h:dU c.entry=true)=>Zi c.entry v W (hv.grow hb) hS h;have D:=Aa fun (W:ZB)=>Bst c.pos W;have qR:(c.id==[])=false:=by rw [<- Bool.not_eq_true,Dl];intro e;have:=(A9 hn).1;rw [e] at this;simp at this
 have uF:([]==c.id)=false:=by rw [<- Bool.not_eq_true,Dl];intro e;have:=(A9 hn).1;rw [<- e] at this;simp at this
 have hs0:((⟨c.id.toArray⟩:ByteArray)==⟨#[]⟩)=false:=by rw [show (#[]:Array UInt8)=([]:List UInt8).toArray from rfl,Cy];exact qR
 have hs1:((⟨#[]⟩:ByteArray)==⟨c.id.toArray⟩)=false:=by rw [show (#[]:Array UInt8)=([]:List UInt8).toArray from rfl,Cy];exact uF
 have hs2:((⟨c.id.toArray⟩:ByteArray)==⟨c.id.toArray⟩)=true:=by rw [Cy];simp
 have hs3:List.isEmpty c.id=false:=by rw [<- Bool.not_eq_true,List.isEmpty_iff];intro e;rw [e] at qR;simp at qR
 clear hn hS;obtain⟨a,cap,rfl,hl,hcap,_⟩:=hv;dsimp only [Bb] at *;generalize c.entry.names.length=N at *;rcases (oM:c.kind=1\/c.kind=2\/c.kind=3\/c.kind=4) with e|e|e|e
 ·obtain⟨e1,e2⟩:=hown (.inl e);rw [hdt (.inl e)] at D;have P:=Aa fun W hb=>P.out W hb e2;rw [e,e1] at *;clear hown hnone hdt hz hk hl qR uF e e1 e2;go_enter func130,ntmps130;go_wp2_with fail;have B:=hB0.out;generalize hWd:w.alloc _=W at *;have hBW:Below w w W:=by rw [<- hWd];exact B _
  have K:=Aa (Cp hWd);clear hWd hB0 B;refine (I.out _).mono ?_;rintro e w1 ⟨rfl,hb1⟩;have hB1:=hBW.trans (hb1.mono hBW.size);have c0:=K.out w1 hb1 0 _ rfl;have c1:=K.out w1 hb1 1 _ rfl;have c2:=K.out w1 hb1 2 _ rfl;have c3:=K.out w1 hb1 3 _ rfl;go_wp2_with fail;refine (P.out _ hB1).mono ?_;rintro e w2 ⟨rfl,hb2⟩;have hB2:=hB1.trans (hb2.mono hB1.size);have hb2:=hb1.trans (hb2.mono hb1.size);have c0:=K.out w2 hb2 0 _ rfl;have c4:=K.out w2 hb2 4 _ rfl;go_wp2_with fail;refine (D.out _).mono ?_;rintro e w3 ⟨rfl,hb3⟩;go_wp2;go_ret;exact⟨rfl,hB2.trans (hb3.mono hB2.size)⟩
 ·obtain⟨e1,e2⟩:=hnone (.inl e);rw [hdt (.inr e)] at D;rw [e,e1] at *;subst e2;clear hown hnone hdt hz hk hl qR uF e e1 P;go_enter func130,ntmps130;go_wp2_with fail;have B:=hB0.out;generalize hWd:w.alloc _=W at *;have hBW:Below w w W:=by rw [<- hWd];exact B _
  have K:=Aa (Cp hWd);clear hWd hB0 B;refine (I.out _).mono ?_;rintro e w1 ⟨rfl,hb1⟩;have hB1:=hBW.trans (hb1.mono hBW.size);have c0:=K.out w1 hb1 0 _ rfl;have c1:=K.out w1 hb1 1 _ rfl;have c2:=K.out w1 hb1 2 _ rfl;have c3:=K.out w1 hb1 3 _ rfl;have c4:=K.out w1 hb1 4 _ rfl;go_wp2_with fail;refine (D.out _).mono ?_;rintro e w3 ⟨rfl,hb3⟩;go_wp2;go_ret;exact⟨rfl,hB1.trans (hb3.mono hB1.size)⟩
 ·obtain⟨e1,e2⟩:=hown (.inr e);have e4:=hz (.inl e);have P:=Aa fun W hb=>P.out W hb e2;rw [e,e1,e4] at *;clear hown hnone hdt hz hk hl qR uF e e1 e2 e4 D;go_enter func130,ntmps130;go_wp2_with fail;have B:=hB0.out;generalize hWd:w.alloc _=W at *;have hBW:Below w w W:=by rw [<- hWd];exact B _
  have K:=Aa (Cp hWd);clear hWd hB0 B;refine (I.out _).mono ?_;rintro e w1 ⟨rfl,hb1⟩;have hB1:=hBW.trans (hb1.mono hBW.size);have c0:=K.out w1 hb1 0 _ rfl;have c1:=K.out w1 hb1 1 _ rfl;have c2:=K.out w1 hb1 2 _ rfl;have c3:=K.out w1 hb1 3 _ rfl;go_wp2_with fail;refine (P.out _ hB1).mono ?_;rintro e w2 ⟨rfl,hb2⟩;have hB2:=hB1.trans (hb2.mono hB1.size);have hb2:=hb1.trans (hb2.mono hb1.size);have c0:=K.out w2 hb2 0 _ rfl;have c4:=K.out w2 hb2 4 _ rfl;go_wp2;go_ret;exact⟨rfl,hB2⟩
 ·obtain⟨e1,e2⟩:=hnone (.inr e);have e4:=hz (.inr e);rw [e,e1,e4] at *;subst e2;clear hown hnone hdt hz hk hl qR uF e e1 e4 P D;go_enter func130,ntmps130;go_wp2_with fail;have B:=hB0.out;generalize hWd:w.alloc _=W at *;have hBW:Below w w W:=by rw [<- hWd];exact B _
  have K:=Aa (Cp hWd);clear hWd hB0 B;refine (I.out _).mono ?_;rintro e w1 ⟨rfl,hb1⟩;have hB1:=hBW.trans (hb1.mono hBW.size);have c0:=K.out w1 hb1 0 _ rfl;have c1:=K.out w1 hb1 1 _ rfl;have c2:=K.out w1 hb1 2 _ rfl;have c3:=K.out w1 hb1 3 _ rfl;have c4:=K.out w1 hb1 4 _ rfl;go_wp2;go_ret;exact⟨rfl,hB1⟩
end
section
open Go.Lib Go.Proofs.Tryz Go.RowKit Go.Shelf Go.Sort CH
attribute [local irreducible] wpQuiet
theorem Dm {s:List UInt8} (h:1<=s.length):((⟨s.toArray⟩:ByteArray)==⟨#[]⟩)=false:=by rw [show (#[]:Array UInt8)=([]:List UInt8).toArray from rfl,Cy,<- Bool.not_eq_true,Dl];rintro rfl;simp at h
theorem C6 {s:List UInt8} (h:1<=s.length):s.isEmpty=false:=by
 cases s with
 |nil=>simp at h
 |cons=>rfl
theorem Bso (m:bD) (vk:ZC) (w:ZB) (hK:A7 w w m.aC vk) (h:bT m=true) : ZE prog 133 #[.agg (A5 m vk).toArray] w (Ret w (.bool true)):=by
 have hh:CH.isName m.id=true/\CH.isName m.authority=true/\((m.kind=1/\m.target=[])\/(m.kind=2/\CH.isName m.target=true/\(m.target==m.id)=false)\/(m.kind=3/\CH.isName m.target=true/\(m.target==m.authority)=false)):=by
  unfold bT at h;simp only [kD] at h;by_cases h1:m.kind=1;·rw [Aw h1] at h;simp only [Am,Dl] at h;exact⟨h.1.1,h.1.2,.inl ⟨h1,h.2⟩⟩
  rw [Ak h1] at h;by_cases h2:m.kind=2;·rw [Aw h2] at h;simp only [Am,bne,Ea] at h;exact⟨h.1.1,h.1.2,.inr (.inl ⟨h2,h.2.1,h.2.2⟩)⟩
  rw [Ak h2] at h;by_cases h3:m.kind=3;·rw [Aw h3] at h;simp only [Am,bne,Ea] at h;exact⟨h.1.1,h.1.2,.inr (.inr ⟨h3,h.2.1,h.2.2⟩)⟩
  rw [Ak h3] at h;cases h
 clear h;obtain⟨h1,h2,h3⟩:=hh;have N:=fun (s:List UInt8) (hs:CH.isName s=true) (W:ZB)=>J0 s W (by have:=(A9 hs).2;omega);have T1:=Aa (N _ h1);have T2:=Aa (N _ h2);rw [h1] at T1;rw [h2] at T2;have T3:=Aa (N m.target);clear N h1 h2;have hB0:=Aa fun o=>(Ac _ w).alloc nR o;obtain⟨a,cap,rfl,_,_,_⟩:=hK.form;clear hK;generalize m.aC.kids.length=n at *;dsimp only [A5] at *;rcases h3 with⟨e1,e2⟩|⟨e1,e2,e3⟩|⟨e1,e2,e3⟩
 ·rw [e1,e2] at *;clear e1 e2 T3;go_enter func133,ntmps133;go_wp2_with fail;have B:=hB0.out;generalize hWd:w.alloc _=W at *;have hBW:Below w w W:=by rw [<- hWd];exact B _
  have K:=Aa (Cp hWd);clear hWd hB0 B;refine (T1.out _).mono ?_;rintro e w1 ⟨rfl,hb1⟩;have c1:=K.out w1 hb1 1 _ rfl;go_wp2_with fail;refine (T2.out _).mono ?_;rintro e w2 ⟨rfl,hb2⟩;have hb2:=hb1.trans (hb2.mono hb1.size);have c2:=K.out w2 hb2 2 _ rfl;have c3:=K.out w2 hb2 3 _ rfl;go_wp2;go_ret;exact⟨rfl,hBW.trans (hb2.mono hBW.size)⟩
 ·have T3:=Aa (T3.out e2);rw [e2] at T3;have e3:((⟨m.target.toArray⟩:ByteArray)==⟨m.id.toArray⟩)=false:=by rw [Cy];exact e3
  rw [e1] at *;clear e1 e2;go_enter func133,ntmps133;go_wp2_with fail;have B:=hB0.out;generalize hWd:w.alloc _=W at *;have hBW:Below w w W:=by rw [<- hWd];exact B _
  have K:=Aa (Cp hWd);clear hWd hB0 B;refine (T1.out _).mono ?_;rintro e w1 ⟨rfl,hb1⟩;have c1:=K.out w1 hb1 1 _ rfl;go_wp2_with fail;refine (T2.out _).mono ?_;rintro e w2 ⟨rfl,hb2⟩;have hb2:=hb1.trans (hb2.mono hb1.size);have c2:=K.out w2 hb2 2 _ rfl;have c3:=K.out w2 hb2 3 _ rfl;go_wp2_with fail;refine (T3.out _).mono ?_;rintro e w3 ⟨rfl,hb3⟩;have hb3:=hb2.trans (hb3.mono hb2.size);have c0:=K.out w3 hb3 0 _ rfl;have c3:=K.out w3 hb3 3 _ rfl;go_wp2;go_ret;exact⟨rfl,hBW.trans (hb3.mono hBW.size)⟩
 ·have T3:=Aa (T3.out e2);rw [e2] at T3;have e3:((⟨m.target.toArray⟩:ByteArray)==⟨m.authority.toArray⟩)=false:=by rw [Cy];exact e3
  rw [e1] at *;clear e1 e2;go_enter func133,ntmps133;go_wp2_with fail;have B:=hB0.out;generalize hWd:w.alloc _=W at *;have hBW:Below w w W:=by rw [<- hWd];exact B _
  have K:=Aa (Cp hWd);clear hWd hB0 B;refine (T1.out _).mono ?_;rintro e w1 ⟨rfl,hb1⟩;have c1:=K.out w1 hb1 1 _ rfl;go_wp2_with fail;refine (T2.out _).mono ?_;rintro e w2 ⟨rfl,hb2⟩;have hb2:=hb1.trans (hb2.mono hb1.size);have c2:=K.out w2 hb2 2 _ rfl;have c3:=K.out w2 hb2 3 _ rfl;go_wp2_with fail;refine (T3.out _).mono ?_;rintro e w3 ⟨rfl,hb3⟩;have hb3:=hb2.trans (hb3.mono hb2.size);have c1:=K.out w3 hb3 1 _ rfl;have c3:=K.out w3 hb3 3 _ rfl;go_wp2;go_ret;exact⟨rfl,hBW.trans (hb3.mono hBW.size)⟩
theorem Buf (m:bD) (vk:ZC) (w:ZB) (hK:A7 w w m.aC vk) (h:cZ m=true) : ZE prog 134 #[.agg (A5 m vk).toArray] w (Ret w (.bool true)):=by
 unfold cZ at h;simp only [Am,Dw,Dl,Bq] at h;obtain⟨h1,h2,h3,h4,h5⟩:=h;have hB0:=Aa fun o=>(Ac _ w).alloc nR o;obtain⟨a,cap,rfl,_,_,_⟩:=hK.form;clear hK;generalize m.aC.kids.length=n at *;dsimp only [A5] at *;have q1:ZH (m.start<0)=false:=Aq oM;have q2:ZH (100000<m.start)=false:=Aq oM;have q5:ZH (0<=m.dF)=true:=Az oM;have q6:ZH (m.dF<=400)=true:=Az (by split at h5 <;> omega);by_cases hw:m.dF=0
 ·rw [hw] at *;rcases h3 with e|⟨e1,e2⟩;·rw [e] at *;clear h1 h2 h4 h5 hw e;go_enter func134,ntmps134;go_wp2;go_ret;exact⟨rfl,hB0.out _⟩
  ·have q3:(m.aB != -1)=true:=by simp;omega
   have q4:ZH (m.aB<=m.start)=false:=Aq oM;have q7:ZH (100000<m.aB)=false:=Aq oM;clear h1 h2 h4 h5 hw e1 e2;go_enter func134,ntmps134;go_wp2;go_ret;exact⟨rfl,hB0.out _⟩
 ·have hk:m.kind=1:=by apply Classical.byContradiction;intro hk;rw [Ak hk] at h5;omega
  have q8:(m.dF==0)=false:=by simpa using hw
  rw [hk] at *;rcases h3 with e|⟨e1,e2⟩;·rw [e] at *;clear h1 h2 h4 h5 hw e hk;go_enter func134,ntmps134;go_wp2;go_ret;exact⟨rfl,hB0.out _⟩
  ·have q3:(m.aB != -1)=true:=by simp;omega
   have q4:ZH (m.aB<=m.start)=false:=Aq oM;have q7:ZH (100000<m.aB)=false:=Aq oM;clear h1 h2 h4 h5 hw e1 e2 hk;go_enter func134,ntmps134;go_wp2;go_ret;exact⟨rfl,hB0.out _⟩
end
section
open Go.Lib Go.Proofs.Tryz Go.RowKit Go.Shelf Go.Sort CH
attribute [local irreducible] wpQuiet
theorem Bsn (k:Nat):∀ (f:CH.Formula) (vk:ZC) (w:ZB),f.depth<=k->A7 w w f vk->f.count<=100000000->f.depth<=100000000 -> ZE prog 257 #[.agg (Av f vk)] w (Ret w (.tuple #[↑f.count,↑f.depth])):=by
 induction k with
 |zero=>intro f vk w hk;exact absurd hk (by rw [Fs];omega)
 |succ k ih =>
  intro f vk w hk hK hc hd;obtain⟨ak,ck,rfl,hc1,hc2,hrow⟩:=hK.form;have hcount:=S1 f;have iG:=Fs f;have hlen:=Lb f.kids;obtain⟨R,hR⟩:∃ R,Hid (R=Ret w (.tuple #[↑f.count,↑f.depth])):=⟨_,Aa rfl⟩
  rw [<- hR.out];generalize hKN:f.kids.length=KN at *;dsimp only [Av];have hB0:=Aa fun o=>(Ac _ w).alloc nR o;replace hrow:=Aa hrow;replace hKN:=Aa hKN;replace ih:=Aa ih;replace hcount:=Aa hcount;replace iG:=Aa iG;replace hc:=Aa hc;replace hd:=Aa hd;replace hk:=Aa hk;go_enter func257,ntmps257;go_wp2_with fail;have B:=hB0.out;generalize hWd:w.alloc _=W at *;have hBW:Below w w W:=by rw [<- hWd];exact B _
  have K:=Aa (Cp (C:=[↑f.op,↑f.name,↑f.cmp,↑f.n,.slice ak KN ck]) hWd);clear hWd hB0 B;go_loopw [4,5,6] (fun nv dv iv wr=>∃ (j a d:Nat),j<=KN/\iv=↑j/\nv=.int .i64 ((a:Int)+1)/\dv=↑d/\a<=100000000/\d<=100000000/\Hid (a=aI (f.kids.take j))/\Hid (d=aV (f.kids.take j))/\Hid (Below W W wr)) (fun _ _ iv _=>KN - (ZG iv).toNat);case atStart=>exact⟨0,0,0,Bg _,rfl,rfl,rfl,oM,oM,Aa rfl,Aa rfl,Aa (Ac _ _)⟩
  case round =>
   obtain⟨j,a,d,hj,rfl,rfl,rfl,ha1,hd1,ha,hdp,hB⟩:=hrel;have c4:=K.out wr hB.out 4 _ rfl;by_cases hlt:j<KN
   ·obtain⟨x,hx⟩:∃ x,f.kids[j]?=some x:=⟨_,Ad (by rw [hKN.out];omega)⟩
    obtain⟨bb,off,rfl,hblt,hcs⟩:=hrow.out (fun e=>by have:=hKN.out;rw [e] at this;simp at this;omega);obtain⟨vx,x0,x1,x2,x3,x4,hkx⟩:=bP.get _ _ _ _ _ hcs hx;have hBw:Below w w wr:=hBW.trans (hB.out.mono hBW.size);have hcl:=fun o=>hBw.cell (p:=⟨bb,o,none⟩) hblt;have e0:=(hcl _).trans x0;have e1:=(hcl _).trans x1;have e2:=(hcl _).trans x2;have e3:=(hcl _).trans x3;have e4:=(hcl _).trans x4;have hmem:x∈f.kids:=Ap hx;have hdx:=Lk hmem;have hcx:=P3 hmem;have hts:f.kids.take (j+1)=f.kids.take j++[x]:=aN f.kids j x hx;have hcm:aI (f.kids.take (j+1))<=aI f.kids:=by have h2:=Iv (f.kids.take (j+1)) (f.kids.drop (j+1));rw [F7] at h2;omega
    have hct:aI (f.kids.take (j+1))=a+x.count:=by rw [hts,Iv,<- ha.out];simp [aI]
    have hdt:aV (f.kids.take (j+1))=max d x.depth:=by rw [hts,Mt,<- hdp.out];simp [aV]
    have IH:=Aa (ih.out x vx wr (by have:=hk.out;have:=iG.out;omega) (A7.mono hBw.size _ _ (A7.below hBw nR _ _ hkx)) (by have:=hc.out;have:=hcount.out;omega) (by have:=hd.out;have:=iG.out;omega));have ba:a+x.count<=100000000:=by have:=hc.out;have:=hcount.out;omega
    have bd:max d x.depth<=100000000:=by have:=hd.out;have:=iG.out;omega
    obtain⟨ax,cx,rfl,_,_,_⟩:=hkx.form;dsimp only [Av] at IH;generalize x.kids.length=xn at *;generalize x.count=xc at *;generalize x.depth=xd at *;have z0:(0:Int)<=(j:Int):=oM;have zk:((j:Int)).toNat=j:=oM;have hk':(j:Int)<(KN:Int):=oM;replace hct:=Aa hct.symm;replace hdt:=Aa hdt.symm;clear x0 x1 x2 x3 x4 hcl hcs hkx hmem hts hx hdx hcx hcm ha hdp hBw;go_wp2_with fail;refine IH.out.mono ?_;rintro e w2 ⟨rfl,hb2⟩;have hB2:=Aa (hB.out.trans (hb2.mono hB.out.size));clear IH hb2 e0 e1 e2 e3 e4 c4 hB;go_wp2;go_roundw;case rel=>exact⟨j+1,a+xc,max d xd,oM,by go_num,by go_num,by go_num,ba,bd,hct,hdt,hB2⟩
    case measure=>simp [ZG];omega
   ·obtain rfl:j=KN:=oM;have hda:f.kids.take j=f.kids:=Di (by rw [hKN.out];exact Bv _);rw [hda] at ha hdp;have r1:((f.count:Nat):Int)=(a:Int)+1:=by have:=hcount.out;have:=ha.out;omega
    have r2:((f.depth:Nat):Int)=(d:Int)+1:=by have:=iG.out;have:=hdp.out;omega
    rw [r1,r2] at hR;clear r1 r2 hda ha hdp;go_wp2;rw [hR.out];exact⟨rfl,hBW.trans (hB.out.mono hBW.size)⟩
theorem Bsr (f:CH.Formula) (vk:ZC) (w:ZB) (hK:A7 w w f vk) (hc:f.count<=200) (hd:f.depth<=20) : ZE prog 202 #[.agg (Av f vk)] w (Ret w (.bool false)):=by have hB0:=Aa fun o=>(Ac _ w).alloc nR o;have S:=Aa fun (W:ZB) (hb:Below w w W)=>Bsn f.depth f vk W nR (A7.mono hb.size _ _ (A7.below hb nR _ _ hK)) oM oM;obtain⟨ak,ck,rfl,hc1,hc2,_⟩:=hK.form;clear hK;generalize f.kids.length=KN at *;dsimp only [Av] at S ⊢;generalize f.count=cc at *;generalize f.depth=dd at *;have d1:ZH ((200:Int)<(cc:Int))=false:=Aq oM;have d2:ZH ((20:Int)<(dd:Int))=false:=Aq oM;go_enter func202,ntmps202;go_wp2_with fail;refine (S.out _ (hB0.out _)).mono ?_;rintro e w1 ⟨rfl,hb1⟩;have hB1:=(hB0.out _).trans (hb1.mono (hB0.out _).size);clear S hB0;go_wp2;go_ret;exact⟨rfl,hB1⟩
theorem Uy (f:CH.Formula) (ak:Option Addr) (ck:Nat) (w:ZB) (h:iT f.op f.name f.cmp f.n f.kids.length=true) : ZE prog 258 #[.agg (Av f (.slice ak f.kids.length ck))] w (Ret w (.bool true)):=by
 have hB0:=Aa fun o=>(Ac _ w).alloc nR o;have h':=h;unfold iT at h';dsimp only [Av];generalize f.kids.length=KN at *;by_cases h3:f.op=3
 ·rw [Aw h3] at h';simp only [Am,Dl,Bq,Ea] at h';obtain⟨k1,k2,k3,k4,k5⟩:=h';have hn:=ig k4;have T1:=Aa fun (W:ZB)=>J0 f.name W (by have:=(A9 hn).2;omega);rw [hn] at T1;have T2:=Aa fun (W:ZB)=>E6b f.name W;rw [k5] at T2;have hs0:=Dm (A9 hn).1;have hs1:=C6 (A9 hn).1;have q1:ZH (1<=f.cmp)=true:=Az k2;have q2:ZH (f.cmp<=6)=true:=Az k3;rw [h3,k1] at *;clear h h3 k1 k2 k3 k4 k5 hn;go_enter func258,ntmps258;go_wp2_with fail;have B:=hB0.out;generalize hWd:w.alloc _=W at *;have hBW:Below w w W:=by rw [<- hWd];exact B _
  have K:=Aa (Cp (C:=[.int .i64 3,↑f.name,↑f.cmp,↑f.n,.slice ak 0 ck]) hWd);clear hWd hB0 B;refine (T1.out _).mono ?_;rintro e w1 ⟨rfl,hb1⟩;have c1:=K.out w1 hb1 1 _ rfl;go_wp2_with fail;refine (T2.out _).mono ?_;rintro e w2 ⟨rfl,hb2⟩;have hb2:=hb1.trans (hb2.mono hb1.size);go_wp2;go_ret;exact⟨rfl,hBW.trans (hb2.mono hBW.size)⟩
 ·rw [Ak h3] at h';split at h';·cases h'
  ·rename_i hz;simp only [Dw,bne_iff_ne,ne_eq,Ky,Decidable.not_not] at hz;obtain⟨⟨z1,z2⟩,z3⟩:=hz;rw [z1,z2,z3] at *;by_cases h12:f.op=1\/f.op=2
   ·rw [Aw h12] at h';simp only [Dl] at h';rcases h12 with e|e;·rw [e,h'] at *;clear h h3 h' e z1 z2 z3;go_enter func258,ntmps258;go_wp2;go_ret;exact⟨rfl,hB0.out _⟩
    ·rw [e,h'] at *;clear h h3 h' e z1 z2 z3;go_enter func258,ntmps258;go_wp2;go_ret;exact⟨rfl,hB0.out _⟩
   ·rw [Ak h12] at h';by_cases h4:f.op=4;·rw [Aw h4] at h';simp only [Dl] at h';rw [h4,h'] at *;clear h h3 h12 h' h4 z1 z2 z3;go_enter func258,ntmps258;go_wp2;go_ret;exact⟨rfl,hB0.out _⟩
    ·rw [Ak h4] at h';simp only [Am,Dw,Dl,Bq] at h';obtain⟨h5,h6⟩:=h';have q1:ZH ((2:Int)<=(KN:Int))=true:=Az oM;rcases h5 with e|e;·rw [e] at *;clear h h3 h12 h4 h6 e z1 z2 z3;go_enter func258,ntmps258;go_wp2;go_ret;exact⟨rfl,hB0.out _⟩
     ·rw [e] at *;clear h h3 h12 h4 h6 e z1 z2 z3;go_enter func258,ntmps258;go_wp2;go_ret;exact⟨rfl,hB0.out _⟩
theorem Uu (k:Nat):∀ (f:CH.Formula) (vk:ZC) (w:ZB),f.depth<=k->A7 w w f vk->f.ok=true -> ZE prog 203 #[.agg (Av f vk)] w (Ret w (.bool true)):=by
 induction k with
 |zero=>intro f vk w hk;exact absurd hk (by rw [Fs];omega)
 |succ k ih =>
  intro f vk w hk hK hok;obtain⟨ak,ck,rfl,hc1,hc2,hrow⟩:=hK.form;have iG:=Fs f;have hok2:=Fri f;rw [hok] at hok2;replace hok2:=hok2.symm;simp only [Am,Ea] at hok2;obtain⟨⟨hn,h3⟩,hall⟩:=hok2;have F:=Aa fun (W:ZB)=>Uy f ak ck W hn;replace h3:¬ f.op=3\/(f.op=3/\(0<=f.n/\f.n<=1000000)/\f.kids.length=0):=by
   by_cases e:f.op=3;·rw [e] at h3;simp at h3;refine .inr ⟨e,oM,?_⟩;unfold iT at hn;rw [Aw e] at hn;simp only [Am,Dl] at hn;exact hn.1
   ·exact .inl e
  generalize hKN:f.kids.length=KN at *;dsimp only [Av] at F ⊢;have hB0:=Aa fun o=>(Ac _ w).alloc nR o;replace hrow:=Aa hrow;replace hKN:=Aa hKN;replace ih:=Aa ih;replace hall:=Aa hall;replace iG:=Aa iG;replace hk:=Aa hk;clear hn hok hK;rcases h3 with h3|⟨h3,⟨n0,n1⟩,n2⟩
  ·have q3:(f.op==3)=false:=by simpa using h3
   clear h3;go_enter func203,ntmps203;go_wp2_with fail;have B:=hB0.out;generalize hWd:w.alloc _=W at *;have hBW:Below w w W:=by rw [<- hWd];exact B _
   have K:=Aa (Cp (C:=[↑f.op,↑f.name,↑f.cmp,↑f.n,.slice ak KN ck]) hWd);clear hWd hB0 B;refine (F.out _).mono ?_;rintro e w1 ⟨rfl,hb1⟩;have c0:=K.out w1 hb1 0 _ rfl;have hb1:=Aa hb1;go_wp2_with fail;go_loopw [3] (fun iv wr=>∃ j:Nat,j<=KN/\iv=↑j/\Hid (Below W W wr)) (fun iv _=>KN - (ZG iv).toNat);case atStart=>exact⟨0,Bg _,rfl,hb1⟩
   case round =>
    obtain⟨j,hj,rfl,hB⟩:=hrel;have c4:=K.out wr hB.out 4 _ rfl;by_cases hlt:j<KN
    ·obtain⟨x,hx⟩:∃ x,f.kids[j]?=some x:=⟨_,Ad (by rw [hKN.out];omega)⟩
     obtain⟨bb,off,rfl,hblt,hcs⟩:=hrow.out (fun e=>by have:=hKN.out;rw [e] at this;simp at this;omega);obtain⟨vx,x0,x1,x2,x3,x4,hkx⟩:=bP.get _ _ _ _ _ hcs hx;have hBw:Below w w wr:=hBW.trans (hB.out.mono hBW.size);have hcl:=fun o=>hBw.cell (p:=⟨bb,o,none⟩) hblt;have e0:=(hcl _).trans x0;have e1:=(hcl _).trans x1;have e2:=(hcl _).trans x2;have e3:=(hcl _).trans x3;have e4:=(hcl _).trans x4;have hmem:x∈f.kids:=Ap hx;have hdx:=Lk hmem;have IH:=Aa (ih.out x vx wr (by have:=hk.out;have:=iG.out;omega) (A7.mono hBw.size _ _ (A7.below hBw nR _ _ hkx)) (Pw hall.out hmem));obtain⟨ax,cx,rfl,_,_,_⟩:=hkx.form;dsimp only [Av] at IH;generalize x.kids.length=xn at *;have z0:(0:Int)<=(j:Int):=oM;have zk:((j:Int)).toNat=j:=oM;have hk':(j:Int)<(KN:Int):=oM;clear x0 x1 x2 x3 x4 hcl hcs hkx hmem hx hdx hBw;go_wp2_with fail;refine IH.out.mono ?_;rintro e w2 ⟨rfl,hb2⟩;have hB2:=Aa (hB.out.trans (hb2.mono hB.out.size));clear IH hb2 e0 e1 e2 e3 e4 c4 hB;go_wp2;go_roundw;case rel=>exact⟨j+1,oM,by go_num,hB2⟩
     case measure=>simp [ZG];omega
    ·obtain rfl:j=KN:=oM;go_wp2;go_ret;exact⟨rfl,hBW.trans (hB.out.mono hBW.size)⟩
  ·have q4:ZH (f.n<0)=false:=Aq oM;have q5:ZH (1000000<f.n)=false:=Aq oM;subst n2;rw [h3] at *;clear h3 n0 n1 hrow hKN ih hall iG hk hc1;go_enter func203,ntmps203;go_wp2_with fail;have B:=hB0.out;generalize hWd:w.alloc _=W at *;have hBW:Below w w W:=by rw [<- hWd];exact B _
   have K:=Aa (Cp (C:=[.int .i64 3,↑f.name,↑f.cmp,↑f.n,.slice ak 0 ck]) hWd);clear hWd hB0 B;refine (F.out _).mono ?_;rintro e w1 ⟨rfl,hb1⟩;have c0:=K.out w1 hb1 0 _ rfl;have c3:=K.out w1 hb1 3 _ rfl;have c4:=K.out w1 hb1 4 _ rfl;go_wp2_with fail;go_loopw [3] (fun iv wr=>iv=.int .i64 0/\wr=w1) (fun _ _=>0);case atStart=>exact⟨rfl,rfl⟩
   case round =>obtain⟨rfl,rfl⟩:=hrel;go_wp2;go_ret;exact⟨rfl,hBW.trans (hb1.mono hBW.size)⟩
end
section
open Go.Lib Go.Proofs.Tryz Go.RowKit Go.Shelf Go.Sort CH
attribute [local irreducible] wpQuiet
theorem T7 {P:Program} {md:Region.Mode} {ops:Array Oper} {Q:Exit->Act->ZB->Prop} {S S':ZB->Prop} (hS:∀ w,S' w->S w) :
  ∀ (fuel:Nat) (listed:Array Bool) (a:Act) (w:ZB),wpAnyH P md ops Q S' fuel listed a w->wpAnyH P md ops Q S fuel listed a w
 |0,_,_,_,h=>h
 |fuel+1,_,_,_,h=>⟨h.1,fun i hi=>wpOp_mono (fun a' w' h'=>⟨hS _ h'.1,T7 hS fuel _ a' w' h'.2⟩) (h.2 i hi)⟩
def Hd2:List (List UInt8):=[[],[61],[33,61],[60],[60,61],[62],[62,61]]
def Mpt (w:ZB) (e:Ending) (w':ZB):Prop:=Below w.heap.size w w'/\∃ g,e=.returned (.slice (some ⟨g,0,none⟩) 7 7)/\w.heap.size<=g/\∀ k l,Hd2[k]?=some l->w'.cell? ⟨g,k,none⟩=some (.string ⟨l.toArray⟩)
theorem Feb (w:ZB):ZE prog 259 #[] w (Mpt w):=by
 have hB0:=fun o=>(Ac _ w).alloc nR o;go_enter func259,ntmps259;go_wp2;go_ret;refine⟨hB0 _,_,rfl,Bv _,fun k l hk=>?_⟩;rw [Cj _ _ _ _ rfl];match k,hk with
 |0,hk|1,hk|2,hk|3,hk|4,hk|5,hk|6,hk=>cases hk;rfl
theorem Mk6 (c:Int) (h1:1<=c) (h6:c<=6):Hd2[c.toNat]?=some (fV c)/\(fV c).length<=2:=by rcases (oM:c=1\/c=2\/c=3\/c=4\/c=5\/c=6) with rfl|rfl|rfl|rfl|rfl|rfl <;> exact⟨rfl,dC⟩
theorem Ext (f:CH.Formula) (ak:Option Addr) (nk ck:Nat) (w:ZB) (h3:f.op=3) (hc1:1<=f.cmp) (hc6:f.cmp<=6) (hn0:0<=f.n) (hn1:f.n<=1000000) (hname:f.name.length<=20000) : ZE prog 204 #[.agg (Av f (.slice ak nk ck))] w (Ret w ↑f.text):=by
 have hres:Hid (f.name++[32]++fV f.cmp++[32]++Go.Lib.itoa f.n=f.text):=Aa (by rw [text_eq,Ak oM,Ak oM,Aw h3]);have hil:=Lib.itoa_length_le f.n oM oM;have D:=Aa fun (W:ZB)=>F0 f.n W hn0 oM;have hB0:=Aa fun o=>(Ac _ w).alloc nR o;obtain⟨hca,hcl⟩:=Mk6 f.cmp hc1 hc6;have C:=Aa fun (W:ZB)=>Feb W;generalize f.text=R at *;dsimp only [Av];rw [h3];clear h3;obtain⟨c,hc⟩:∃ c:Nat,f.cmp=c:=⟨f.cmp.toNat,oM⟩
 have hc7:c<7:=oM;generalize fV f.cmp=cw at *;rw [hc] at *;rw [Int.toNat_natCast] at hca;generalize ZK f.n=nt at *;generalize f.name=nm at *;generalize f.n=n at *;have z0:(0:Int)<=(c:Int):=oM;have zk:((c:Int)).toNat=c:=oM;have z7:(c:Int)<7:=oM;have hq1:¬ 9223372036854775807<nm.length+1:=oM;have hq2:¬ 9223372036854775807<nm.length+1+cw.length:=oM;have hq3:¬ 9223372036854775807<nm.length+1+cw.length+1:=oM;have hq4:¬ 9223372036854775807<nm.length+1+cw.length+1+nt.length:=oM;replace hca:=Aa hca;clear hc hc1 hc6 hc7 hn0 hn1 hname hil hcl;go_enter func204,ntmps204;go_wp2_with fail;have B:=hB0.out;generalize hWd:w.alloc _=W at *;have hBW:Below w w W:=by rw [<- hWd];exact B _
 have K:=Aa (Cp (C:=[.int .i64 3,↑nm,↑c,↑n,.slice ak nk ck]) hWd);clear hWd hB0 B;have hD:Below W W W.drew:=(Ac _ W).drew;refine Ej (S:=fun W'=>Below W W W') kR hD (fun hHeld=>?_);refine tk 0 (v:=?_) rfl rF hHeld ?_ ?_;rotate_left;·(intro w hSw;go_simp;try with_reducible rfl)
 (try simp only [ZF,pD,pE,pF,pA,pB,pC]);refine tk 1 (v:=?_) rfl rF hHeld ?_ ?_;rotate_left;·(intro w hSw;have q:=K.out w hSw 1 _ rfl;go_simp;try with_reducible rfl)
 (try simp only [ZF,pD,pE,pF,pA,pB,pC]);refine tk 2 (v:=?_) rfl rF hHeld ?_ ?_;rotate_left;·(intro w hSw;go_simp;try with_reducible rfl)
 (try simp only [ZF,pD,pE,pF,pA,pB,pC]);refine tk 4 (v:=?_) rfl rF hHeld ?_ ?_;rotate_left;·(intro w hSw;go_simp;try with_reducible rfl)
 (try simp only [ZF,pD,pE,pF,pA,pB,pC]);refine tk 5 (v:=?_) rfl rF hHeld ?_ ?_;rotate_left;·(intro w hSw;have q:=K.out w hSw 2 _ rfl;go_simp;try with_reducible rfl)
 (try simp only [ZF,pD,pE,pF,pA,pB,pC]);refine tk 10 (v:=?_) rfl rF hHeld ?_ ?_;rotate_left;·(intro w hSw;go_simp;try with_reducible rfl)
 (try simp only [ZF,pD,pE,pF,pA,pB,pC]);refine tk 11 (v:=?_) rfl rF hHeld ?_ ?_;rotate_left;·(intro w hSw;have q:=K.out w hSw 3 _ rfl;go_simp;try with_reducible rfl)
 (try simp only [ZF,pD,pE,pF,pA,pB,pC]);refine rk 3 rfl (fun K hK=>?_);go_simp;refine (C.out _).mono ?_;rintro e w2 ⟨hb2,g,rfl,hg,hcell⟩;have hE:Below W W w2:=hD.trans (hb2.mono hD.size);have hgc:=hcell c cw hca.out;go_wp2_with fail;refine hK.out _ _ hE (fun _=>?_);clear hK hHeld hcell;refine T7 (S':=fun W'=>Below W W W'/\W'.cell? ⟨g,c,none⟩=some ↑cw) (fun _ h=>h.1) _ _ _ _ ?_;have hHeld:Below W W w2/\w2.cell? ⟨g,c,none⟩=some ↑cw:=⟨hE,hgc⟩
 (try simp only [ZF,pD,pE,pF,pA,pB,pC]);refine tk 6 (v:=?_) rfl rF hHeld ?_ ?_;rotate_left;·(intro w hSw;go_simp;try with_reducible rfl)
 (try simp only [ZF,pD,pE,pF,pA,pB,pC]);refine tk 7 (v:=?_) rfl rF hHeld ?_ ?_;rotate_left;·(intro w hSw;have q:=hSw.2;go_simp;try with_reducible rfl)
 (try simp only [ZF,pD,pE,pF,pA,pB,pC]);refine tk 8 (v:=?_) rfl rF hHeld ?_ ?_;rotate_left;·(intro w hSw;go_simp;try with_reducible rfl)
 (try simp only [ZF,pD,pE,pF,pA,pB,pC]);refine tk 9 (v:=?_) rfl rF hHeld ?_ ?_;rotate_left;·(intro w hSw;go_simp;try with_reducible rfl)
 (try simp only [ZF,pD,pE,pF,pA,pB,pC]);refine rk 12 rfl (fun K hK=>?_);go_simp;refine (D.out _).mono ?_;rintro e w3 ⟨rfl,hb3⟩;have hF:Below W W w3:=hE.trans (hb3.mono hE.size);have hgl:g<w2.heap.size:=by
  by_cases h:g<w2.heap.size;·exact h
  ·rw [World.cell?,H8 (by show _<=g;omega)] at hgc;cases hgc
 have hgd:=(hb3.cell (p:=⟨g,c,none⟩) hgl).trans hgc;go_wp2_with fail;refine hK.out _ _ ⟨hF,hgd⟩ (fun _=>?_);clear hK hHeld;have hHeld:Below W W w3/\w3.cell? ⟨g,c,none⟩=some ↑cw:=⟨hF,hgd⟩
 (try simp only [ZF,pD,pE,pF,pA,pB,pC]);refine tk 13 (v:=?_) rfl rF hHeld ?_ ?_;rotate_left;·(intro w hSw;go_simp;try with_reducible rfl)
 (try simp only [ZF,pD,pE,pF,pA,pB,pC]);refine tk 14 (v:=?_) rfl rF hHeld ?_ ?_;rotate_left;·(intro w hSw;go_simp;try with_reducible rfl)
 (try simp only [ZF,pD,pE,pF,pA,pB,pC]);refine D6 kR ?_ _;have hfin:(⟨nm.toArray⟩:ByteArray)++⟨#[32]⟩++⟨cw.toArray⟩++⟨#[32]⟩++⟨nt.toArray⟩=⟨R.toArray⟩:=by rw [show (⟨#[32]⟩:ByteArray)=⟨([32]:List UInt8).toArray⟩ from rfl,bytes_append,bytes_append,bytes_append,bytes_append,hres.out]
 go_wp2;go_ret;exact⟨by first|rfl|rw [hfin];rfl,hBW.trans (hF.mono hBW.size)⟩
end
section
open Go.Lib Go.Proofs.Tryz Go.RowKit Go.Shelf Go.Sort CH
attribute [local irreducible] wpQuiet
def ug (op:Int):List UInt8:=if op=5 then ([32,97,110,100,32]:List UInt8) else ([32,111,114,32]:List UInt8)
def nZ (op:Int) (kts:List (List UInt8)):List UInt8:=if op=4 then (match kts with|[]=>[]|x::_=>([110,111,116,32]:List UInt8)++x) else CH.join (ug op) kts
def Zw (op:Int) (j:Nat) (t:List UInt8):List UInt8:=if (op==4)=true then ([110,111,116,32]:List UInt8)++t else if 0<j then (if (op==5)=true then ([32,97,110,100,32]:List UInt8)++t else ([32,111,114,32]:List UInt8)++t) else t
theorem I16 (op:Int) (kts:List (List UInt8)) (t:List UInt8) (h:op=4->kts=[]):nZ op (kts++[t])=nZ op kts++Zw op kts.length t:=by
 unfold nZ Zw ug;by_cases h4:op=4;·subst h4;rw [h rfl];rfl
 ·have b4:(op==4)=false:=by simpa using h4
  rw [b4];simp only [Ak h4,Ie,Na];rw [M2];cases kts with
  |nil=>simp [CH.join]
  |cons x l =>
   by_cases h5:op=5;·subst h5;simp
   ·have b5:(op==5)=false:=by simpa using h5
    rw [b5];simp [h5]
theorem Kc8 (op:Int) (l r:List (List UInt8)) (h:op=4->(l++r).length<=1):(nZ op l).length<=(nZ op (l++r)).length:=by
 unfold nZ;by_cases h4:op=4
 ·rw [Aw h4,Aw h4];cases l with
  |nil=>exact Bg _
  |cons x l=>exact Bv _
 ·rw [Ak h4,Ak h4];exact Od _ _ _
theorem I27 {f:CH.Formula} (h:f.op=4/\f.kids.length=1\/f.op=5\/f.op=6):f.text=nZ f.op (f.kids.map (A6 f.op)):=by
 rw [text_eq];unfold nZ ug;rcases h with⟨e,e1⟩|e|e
 ·rw [Ak oM,Ak oM,Ak oM,Aw e,Aw e];cases hk:f.kids with
  |nil=>rw [hk] at e1;simp at e1
  |cons x l=>rfl
 ·rw [Ak oM,Ak oM,Ak oM,Ak oM,Aw e,Ak oM,Aw e]
 ·rw [Ak oM,Ak oM,Ak oM,Ak oM,Ak oM,Ak oM,Ak oM]
theorem Yj (f:CH.Formula) (ak:Option Addr) (nk ck:Nat) (w:ZB) (h:f.op=1\/f.op=2) : ZE prog 204 #[.agg (Av f (.slice ak nk ck))] w (Ret w ↑f.text):=by
 have ht:=text_eq f;have hB0:=Aa fun o=>(Ac _ w).alloc nR o;generalize f.text=R at *;dsimp only [Av];rcases h with h|h;·rw [h] at ht ⊢;replace ht:R=([116,114,117,101]:List UInt8):=ht;subst ht;go_enter func204,ntmps204;go_wp2;go_ret;exact⟨rfl,hB0.out _⟩
 ·rw [h] at ht ⊢;replace ht:R=([102,97,108,115,101]:List UInt8):=ht;subst ht;go_enter func204,ntmps204;go_wp2;go_ret;exact⟨rfl,hB0.out _⟩
theorem Wk (f:CH.Formula) (vk:ZC) (w:ZB) (hK:A7 w w f vk) (hop:f.op=4/\f.kids.length=1\/f.op=5\/f.op=6) (hlen:f.text.length<=3000000000) (IH0:∀ x∈f.kids,∀ (vx:ZC) (W:ZB),A7 W W x vx->ZE prog 204 #[.agg (Av x vx)] W (Ret W ↑x.text)) (hx0:∀ x∈f.kids,x.text.length<=3000000000) : ZE prog 204 #[.agg (Av f vk)] w (Ret w ↑f.text):=by
 have hta:=I27 hop;have HL:=Aa fun (j:Nat)=>(show (nZ f.op ((f.kids.take j).map (A6 f.op))).length<=3000000000 from by have h1:=Kc8 f.op ((f.kids.take j).map (A6 f.op)) ((f.kids.drop j).map (A6 f.op)) (fun h4=>by rw [<- Fh,F7,Dc];omega);rw [<- Fh,F7,<- hta] at h1;omega)
 obtain⟨R,hR⟩:∃ R,f.text=R:=⟨_,rfl⟩
 rw [hR] at hta ⊢;obtain⟨ak,ck,rfl,hc1,hc2,hrow⟩:=hK.form;generalize hKN:f.kids.length=KN at *;dsimp only [Av];have hB0:=Aa fun o=>(Ac _ w).alloc nR o;replace hrow:=Aa hrow;replace hKN:=Aa hKN;replace hta:=Aa hta;replace IH0:=Aa IH0;replace hx0:=Aa hx0;have h1:(f.op==1)=false:=by simp;omega
 have h2:(f.op==2)=false:=by simp;omega
 have h3:(f.op==3)=false:=by simp;omega
 clear hK hR hlen;go_enter func204,ntmps204;go_wp2_with fail;have B:=hB0.out;generalize hWd:w.alloc _=W at *;have hBW:Below w w W:=by rw [<- hWd];exact B _
 have K:=Aa (Cp (C:=[↑f.op,↑f.name,↑f.cmp,↑f.n,.slice ak KN ck]) hWd);clear hWd hB0 B;go_loopw [3,4] (fun sv iv wr=>∃ (j:Nat) (t:List UInt8),j<=KN/\iv=↑j/\sv=↑t/\t.length<=3000000000/\Hid (t=nZ f.op ((f.kids.take j).map (A6 f.op)))/\Hid (Below W W wr)) (fun _ iv _=>KN - (ZG iv).toNat);case atStart=>exact⟨0,[],Bg _,rfl,rfl,sM,Aa (by rw [H7];unfold nZ;simp [CH.join]),hid (Below.refl _ _)⟩
 case round =>
  obtain⟨j,t,hj,rfl,rfl,htl,ht,hB⟩:=hrel;have c4:=K.out wr hB.out 4 _ rfl;by_cases hlt:j<KN
  ·obtain⟨x,hx⟩:∃ x,f.kids[j]?=some x:=⟨_,Ad (by rw [hKN.out];omega)⟩
   obtain⟨bb,off,rfl,hblt,hcs⟩:=hrow.out (fun e=>by have:=hKN.out;rw [e] at this;simp at this;omega);obtain⟨vx,x0,x1,x2,x3,x4,hkx⟩:=bP.get _ _ _ _ _ hcs hx;have hBw:Below w w wr:=hBW.trans (hB.out.mono hBW.size);have hcl:=fun o=>hBw.cell (p:=⟨bb,o,none⟩) hblt;have e0:=(hcl _).trans x0;have e1:=(hcl _).trans x1;have e2:=(hcl _).trans x2;have e3:=(hcl _).trans x3;have e4:=(hcl _).trans x4;have hmem:x∈f.kids:=Ap hx;have hts:(f.kids.take (j+1)).map (A6 f.op)=(f.kids.take j).map (A6 f.op)++[A6 f.op x]:=by rw [aN f.kids j x hx,Fh];rfl
   have hjl:((f.kids.take j).map (A6 f.op)).length=j:=by rw [Dc,Dy,hKN.out];omega
   have hac:=I16 f.op ((f.kids.take j).map (A6 f.op)) (A6 f.op x) (fun h4=>by have:j=0:=oM;rw [this];rfl);rw [<- hts,hjl,<- ht.out] at hac;have hL:=HL.out (j+1);rw [hac] at hL;have IH:=Aa (IH0.out x hmem vx wr (A7.mono hBw.size _ _ (A7.below hBw nR _ _ hkx)));have hxl:=hx0.out x hmem;obtain⟨ax,cx,rfl,_,_,_⟩:=hkx.form;dsimp only [Av] at IH;generalize x.kids.length=xn at *;have hkt:A6 f.op x=if x.op=6 then [40]++x.text++[41] else if x.op=5 then (if (f.op != 6)=true then [40]++x.text++[41] else x.text) else x.text:=by
    unfold A6;by_cases h6:x.op=6;·rw [Aw h6,Aw (by simp [h6])]
    ·by_cases h5:x.op=5
     ·rw [Ak h6,Aw h5];have e6:(x.op==6)=false:=by simpa using h6
      have e5:(x.op==5)=true:=by simpa using h5
      rw [e6,e5,J5,a_Bool_true_and]
     ·rw [Ak h6,Ak h5];have e6:(x.op==6)=false:=by simpa using h6
      have e5:(x.op==5)=false:=by simpa using h5
      rw [e6,e5];rfl
   generalize A6 f.op x=kt at *;generalize x.text=T at *;have z0:(0:Int)<=(j:Int):=oM;have zk:((j:Int)).toNat=j:=oM;have hk':(j:Int)<(KN:Int):=oM;replace hac:=Aa hac.symm;replace hkt:=Aa hkt;replace hL:=Aa hL;clear x1 x2 x3 x4 hcs hkx hmem hx hts hjl ht hcl;go_wp2_with fail;refine IH.out.mono ?_;rintro e w2 ⟨rfl,hb2⟩;have hB2:=hB.out.trans (hb2.mono hB.out.size);have hBw2:=hBw.trans (hb2.mono hBw.size);have e0:=(hBw2.cell (p:=⟨bb,_,none⟩) hblt).trans x0;have c0:=K.out w2 hB2 0 _ rfl;have c4:=K.out w2 hB2 4 _ rfl;replace hB2:=Aa hB2;clear IH hb2 e1 e2 e3 e4 x0 hBw hBw2;generalize x.op=xo at *;go_wp2_with fail;all_goals refine⟨⟨j+1,t++Zw f.op j kt,oM,by go_num,?_,hL.out,hac,hB2⟩,by simp [ZG];omega⟩;have hk:=hkt.out;rw [hk];clear hk hac hL hkt hB2 htl hxl c0 c4 e0;unfold Zw;simp only [*,Ns,Na,Ie,Int.reduceEq,bytes_append]
  ·obtain rfl:j=KN:=oM;have htR:t=R:=by rw [ht.out,hta.out,Di (by rw [hKN.out];exact Bv _)]
   subst htR;clear ht;go_wp2;go_ret;exact⟨rfl,hBW.trans (hB.out.mono hBW.size)⟩
end
section
open Go.Lib Go.Proofs.Tryz Go.RowKit Go.Shelf Go.Sort CH
attribute [local irreducible] wpQuiet
theorem Xd (k:Nat):∀ (f:CH.Formula) (vk:ZC) (w:ZB),f.depth<=k->A7 w w f vk->f.ok=true->Fi f->f.count<=90000 -> ZE prog 204 #[.agg (Av f vk)] w (Ret w ↑f.text):=by
 induction k with
 |zero=>intro f vk w hk;exact absurd hk (by rw [Fs];omega)
 |succ k ih =>
  intro f vk w hk hK hok hS hcount;have mZ:=Nd hok;have hd:=Fs f;have hcn:=S1 f;have hIH:∀ x∈f.kids,∀ (vx:ZC) (W:ZB),A7 W W x vx->ZE prog 204 #[.agg (Av x vx)] W (Ret W ↑x.text):=fun x hx vx W hKx=>ih x vx W (by have:=Lk hx;omega) hKx (Pw mZ.2.2 hx) (hS.kids.mem hx) (by have:=P3 hx;omega);have hxl:∀ x∈f.kids,x.text.length<=3000000000:=fun x hx=>by have:=Ps x (hS.kids.mem hx) (Pw mZ.2.2 hx);have:=P3 hx;omega
  have hfl:=Ps f hS hok;obtain⟨ak,ck,rfl,hc1,hc2,hrow⟩:=hK.form;rcases Cal hok with h|h|⟨h,h1,h6⟩|⟨h,h1⟩|h|h;·exact Yj f ak _ ck w (.inl h)
  ·exact Yj f ak _ ck w (.inr h)
  ·have hn:=mZ.2.1 h;exact Ext f ak _ ck w h h1 h6 hn.1 hn.2 hS.name
  ·exact Wk f _ w hK (.inl ⟨h,h1⟩) oM hIH hxl
  ·exact Wk f _ w hK (.inr (.inl h)) oM hIH hxl
  ·exact Wk f _ w hK (.inr (.inr h)) oM hIH hxl
theorem Zh (f:CH.Formula) (vk:ZC) (w:ZB) (t:List UInt8) (hK:A7 w w f vk) (hS:Fi f) (h:bG f=some t) : ZE prog 132 #[.agg (Av f vk)] w (Ret w (.tuple #[↑t,.int .i64 0])):=by
 unfold bG at h;split at h;·cases h
 ·rename_i hl;simp only [Dw,Bq,Ky,Nat.not_lt] at hl;split at h
  ·rename_i hok;cases h;have KB:=fun (W:ZB) (hb:Below w w W)=>A7.mono hb.size _ _ (A7.below hb nR _ _ hK);have L:=Aa fun (W:ZB) (hb:Below w w W)=>Bsr f vk W (KB W hb) oM oM;have V:=Aa fun (W:ZB) (hb:Below w w W)=>Uu f.depth f vk W nR (KB W hb) hok;have T:=Aa fun (W:ZB) (hb:Below w w W)=>Xd f.depth f vk W nR (KB W hb) hok hS oM;have hB0:=Aa fun o=>(Ac _ w).alloc nR o;obtain⟨ak,ck,rfl,_,_,_⟩:=hK.form;clear hK KB hl hok hS;generalize f.kids.length=KN at *;dsimp only [Av] at *;generalize f.text=t at *;go_enter func132,ntmps132;go_wp2_with fail;have B:=hB0.out;generalize hWd:w.alloc _=W at *;have hBW:Below w w W:=by rw [<- hWd];exact B _
   have K:=Aa (Cp (C:=[↑f.op,↑f.name,↑f.cmp,↑f.n,.slice ak KN ck]) hWd);clear hWd hB0 B;refine (L.out _ hBW).mono ?_;rintro e w1 ⟨rfl,hb1⟩;have hB1:=hBW.trans (hb1.mono hBW.size);have c0:=K.out w1 hb1 0 _ rfl;have c1:=K.out w1 hb1 1 _ rfl;have c2:=K.out w1 hb1 2 _ rfl;have c3:=K.out w1 hb1 3 _ rfl;have c4:=K.out w1 hb1 4 _ rfl;go_wp2_with fail;refine (V.out _ hB1).mono ?_;rintro e w2 ⟨rfl,hb2⟩;have hB2:=hB1.trans (hb2.mono hB1.size);have hb2:=hb1.trans (hb2.mono hb1.size);clear c0 c1 c2 c3 c4;have c0:=K.out w2 hb2 0 _ rfl;have c1:=K.out w2 hb2 1 _ rfl;have c2:=K.out w2 hb2 2 _ rfl;have c3:=K.out w2 hb2 3 _ rfl;have c4:=K.out w2 hb2 4 _ rfl;go_wp2_with fail;refine (T.out _ hB2).mono ?_;rintro e w3 ⟨rfl,hb3⟩;clear L V T c0 c1 c2 c3 c4;go_wp2;refine Au (Bc rfl _ _ _) rfl ?_;exact⟨rfl,hB2.trans (hb3.mono hB2.size)⟩
  ·cases h
end
section
open Go.Lib Go.Proofs.Tryz Go.RowKit Go.Shelf Go.Sort CH
attribute [local irreducible] wpQuiet
theorem Its {f:CH.Formula} {t:List UInt8} (hS:Fi f) (h:bG f=some t):t.length<=6000000:=by
 unfold bG at h;split at h;·cases h
 ·rename_i hl;simp only [Dw,Bq,Ky,Nat.not_lt] at hl;split at h;·rename_i hok;cases h;have:=Ps f hS hok;omega
  ·cases h
theorem Ng {n:Int} (h0:0<=n) (h1:n<=144001439):(ZK n).length<=21:=Lib.itoa_length_le n oM oM
theorem F20 {m:bD} {t:List UInt8} (h:dn m=some t):∃ ft,bG m.aC=some ft/\bT m=true/\cZ m=true /\ t=CH.join [32] ([dH m.kind]++(if m.target != [] then [m.target] else [])++[m.id,([111,102]:List UInt8),m.authority] ++ (if m.aC.op != 1 then [([105,102]:List UInt8),ft] else [])++[([102,114,111,109]:List UInt8),Go.Lib.itoa m.start]++(if m.aB >= 0 then [([117,110,116,105,108]:List UInt8),Go.Lib.itoa m.aB] else []) ++ (if m.dF > 0 then [([119,105,110,100]:List UInt8),Go.Lib.itoa m.dF] else []))++[59]:=by
 unfold dn at h;split at h;·cases h
 ·rename_i ft hft;split at h;·rename_i hnd;rw [Am] at hnd;cases h;exact⟨ft,hft,hnd.1,hnd.2,rfl⟩
  ·cases h
def Nf (k o:Int) (tg id au ft s1 s2 s3:List UInt8) (u x:Bool):List UInt8 := (if k=1 then ([102,111,114,98,105,100,32]:List UInt8) else if k=2 then ([101,120,101,109,112,116,32]:List UInt8)++tg++[32] else ([98,108,111,99,107,32]:List UInt8)++tg++[32])++id++([32,111,102,32]:List UInt8)++au++(if o != 1 then ([32,105,102,32]:List UInt8)++ft else []) ++ (([32,102,114,111,109,32]:List UInt8)++s1)++(if u then ([32,117,110,116,105,108,32]:List UInt8)++s2 else [])++(if x then ([32,119,105,110,100,32]:List UInt8)++s3 else [])++[59]
theorem Ca8 (m:bD) (ft:List UInt8) (hn:m.kind=1/\m.target=[]\/(m.kind=2\/m.kind=3)/\m.target≠[]) : CH.join [32] ([dH m.kind]++(if m.target != [] then [m.target] else [])++[m.id,([111,102]:List UInt8),m.authority] ++ (if m.aC.op != 1 then [([105,102]:List UInt8),ft] else [])++[([102,114,111,109]:List UInt8),Go.Lib.itoa m.start]++(if m.aB >= 0 then [([117,110,116,105,108]:List UInt8),Go.Lib.itoa m.aB] else []) ++ (if m.dF > 0 then [([119,105,110,100]:List UInt8),Go.Lib.itoa m.dF] else []))++[59]=Nf m.kind m.aC.op m.target m.id m.authority ft (Go.Lib.itoa m.start) (Go.Lib.itoa m.aB) (Go.Lib.itoa m.dF) (ZH (0<=m.aB)) (ZH (0<m.dF)):=by unfold Nf dH;generalize m.aC.op=o;generalize Go.Lib.itoa m.start=s1;generalize Go.Lib.itoa m.aB=s2;generalize Go.Lib.itoa m.dF=s3;generalize m.id=id;generalize m.authority=au;generalize m.aB=u;generalize m.dF=x;cases ho:(o != 1) <;> by_cases hu:0<=u <;> by_cases hx:0<x;all_goals rcases hn with⟨e1,e2⟩|⟨e1|e1,e2⟩;all_goals simp [e1,e2,hu,hx,CH.join]
theorem Xf (m:bD) (vk:ZC) (w:ZB) (t:List UInt8) (hK:A7 w w m.aC vk) (hS:Fi m.aC) (h:dn m=some t) : ZE prog 76 #[.agg (A5 m vk).toArray] w (Ret w (.tuple #[↑t,.int .i64 0])):=by
 obtain⟨ft,hft,hn,hd,rfl⟩:=F20 h;have hlf:=Its hS hft;have KB:=fun (W:ZB) (hb:Below w w W)=>A7.mono hb.size _ _ (A7.below hb nR _ _ hK);have T1:=Aa fun (W:ZB) (hb:Below w w W)=>Zh m.aC vk W ft (KB W hb) hS hft;have T2:=Aa fun (W:ZB) (hb:Below w w W)=>Bso m vk W (KB W hb) hn;have T3:=Aa fun (W:ZB) (hb:Below w w W)=>Buf m vk W (KB W hb) hd;have hB0:=Aa fun o=>(Ac _ w).alloc nR o;obtain⟨ak,ck,rfl,_,_,_⟩:=hK.form;unfold cZ at hd;simp only [Am,Dw,Dl,Bq] at hd;obtain⟨d1,d2,d3,d4,d5⟩:=hd;have hnm:CH.isName m.id=true/\CH.isName m.authority=true/\(m.kind=1/\m.target=[]\/(m.kind=2\/m.kind=3)/\CH.isName m.target=true):=by
  unfold bT at hn;simp only [kD] at hn;by_cases h1:m.kind=1;·rw [Aw h1] at hn;simp only [Am,Dl] at hn;exact⟨hn.1.1,hn.1.2,.inl ⟨h1,hn.2⟩⟩
  rw [Ak h1] at hn;by_cases h2:m.kind=2;·rw [Aw h2] at hn;simp only [Am] at hn;exact⟨hn.1.1,hn.1.2,.inr ⟨.inl h2,hn.2.1⟩⟩
  rw [Ak h2] at hn;by_cases h3:m.kind=3;·rw [Aw h3] at hn;simp only [Am] at hn;exact⟨hn.1.1,hn.1.2,.inr ⟨.inr h3,hn.2.1⟩⟩
  rw [Ak h3] at hn;cases hn
 obtain⟨n1,n2,n3⟩:=hnm;have l1:=(A9 n1).2;have l2:=(A9 n2).2;have l3:m.target.length<=24:=by
  rcases n3 with⟨_,e⟩|⟨_,e⟩;·rw [e];simp
  ·exact (A9 e).2
 have n3':m.kind=1/\m.target=[]\/(m.kind=2\/m.kind=3)/\m.target≠[]:=n3.imp id fun h=>⟨h.1,fun e=>by have:=(A9 h.2).1;rw [e] at this;simp at this⟩
 rw [Ca8 m ft n3'];obtain⟨R,hR⟩:∃ R,Hid (Nf m.kind m.aC.op m.target m.id m.authority ft (Go.Lib.itoa m.start) (Go.Lib.itoa m.aB) (Go.Lib.itoa m.dF) (ZH (0<=m.aB)) (ZH (0<m.dF))=R):=⟨_,Aa rfl⟩
 rw [hR.out];have D1:=Aa fun (W:ZB)=>F0 m.start W oM oM;have i1:=Ng (n:=m.start) oM oM;have D3:=Aa fun (W:ZB)=>F0 m.dF W oM (by split at d5 <;> omega);have i3:=Ng (n:=m.dF) oM (by split at d5 <;> omega);have D2:=Aa fun (h:0<=m.aB) (W:ZB)=>F0 m.aB W h oM;have i2:0<=m.aB->(ZK m.aB).length<=21:=fun h=>Ng h oM;have hk:m.kind=1\/m.kind=2\/m.kind=3:=oM;clear h hK KB hS hft d1 d2 d3 d4 d5 n1 n2 n3 n3' hn;generalize m.aC.kids.length=KN at *;dsimp only [A5,Av] at *;generalize ZK m.start=s1 at *;generalize ZK m.aB=s2 at *;generalize ZK m.dF=s3 at *;have kr:∀ k:Int,m.kind=k->ZE prog 76 #[.agg #[↑m.id,↑m.authority,↑k,↑m.target,↑m.aC.op,↑m.aC.name,↑m.aC.cmp,↑m.aC.n,.slice ak KN ck,↑m.start,↑m.aB,↑m.dF]] w (Ret w (.tuple #[↑R,.int .i64 0]))->ZE prog 76 #[.agg #[↑m.id,↑m.authority,↑m.kind,↑m.target,↑m.aC.op,↑m.aC.name,↑m.aC.cmp,↑m.aC.n,.slice ak KN ck,↑m.start,↑m.aB,↑m.dF]] w (Ret w (.tuple #[↑R,.int .i64 0])):=fun k e h=>by rw [e];exact h
 rcases hk with hk|hk|hk;all_goals
  refine kr _ hk ?_;rw [hk] at hR T2 T3;clear kr hk;go_enter func76,ntmps76;go_wp2_with fail;have B:=hB0.out;generalize hWd:w.alloc _=W at *;have hBW:Below w w W:=by rw [<- hWd];exact B _
  have K:=Aa (Cp (C:=_) hWd);clear hWd hB0 B;refine (T1.out _ hBW).mono ?_;rintro e w1 ⟨rfl,hb1⟩;have hB1:=hBW.trans (hb1.mono hBW.size);have c0:=K.out w1 hb1 0 _ rfl;have c1:=K.out w1 hb1 1 _ rfl;have c2:=K.out w1 hb1 2 _ rfl;have c3:=K.out w1 hb1 3 _ rfl;have c4:=K.out w1 hb1 4 _ rfl;have c5:=K.out w1 hb1 5 _ rfl;have c6:=K.out w1 hb1 6 _ rfl;have c7:=K.out w1 hb1 7 _ rfl;have c8:=K.out w1 hb1 8 _ rfl;have c9:=K.out w1 hb1 9 _ rfl;have c10:=K.out w1 hb1 10 _ rfl;have c11:=K.out w1 hb1 11 _ rfl;go_wp2_with fail;refine (T2.out _ hB1).mono ?_;rintro e w2 ⟨rfl,hb2⟩;have hB2:=hB1.trans (hb2.mono hB1.size);replace hb2:=hb1.trans (hb2.mono hb1.size);clear c0 c1 c2 c3 c4 c5 c6 c7 c8 c9 c10 c11;have c0:=K.out w2 hb2 0 _ rfl;have c1:=K.out w2 hb2 1 _ rfl;have c2:=K.out w2 hb2 2 _ rfl;have c3:=K.out w2 hb2 3 _ rfl;have c4:=K.out w2 hb2 4 _ rfl;have c5:=K.out w2 hb2 5 _ rfl;have c6:=K.out w2 hb2 6 _ rfl;have c7:=K.out w2 hb2 7 _ rfl;have c8:=K.out w2 hb2 8 _ rfl;have c9:=K.out w2 hb2 9 _ rfl;have c10:=K.out w2 hb2 10 _ rfl;have c11:=K.out w2 hb2 11 _ rfl;go_wp2_with fail;refine (T3.out _ hB2).mono ?_;rintro e w3 ⟨rfl,hb3⟩;have hB3:=hB2.trans (hb3.mono hB2.size);replace hb3:=hb2.trans (hb3.mono hb2.size);clear c0 c1 c2 c3 c4 c5 c6 c7 c8 c9 c10 c11;have c0:=K.out w3 hb3 0 _ rfl;have c1:=K.out w3 hb3 1 _ rfl;have c2:=K.out w3 hb3 2 _ rfl;have c3:=K.out w3 hb3 3 _ rfl;have c4:=K.out w3 hb3 4 _ rfl;have c9:=K.out w3 hb3 9 _ rfl;clear T1 T2 T3;go_wp2_with fail;all_goals
   refine (D1.out _).mono ?_;rintro e w4 ⟨rfl,hb4⟩;have hB4:=hB3.trans (hb4.mono hB3.size);replace hb4:=hb3.trans (hb4.mono hb3.size);have c10:=K.out w4 hb4 10 _ rfl;have c11:=K.out w4 hb4 11 _ rfl;by_cases hu:0<=m.aB <;> by_cases hx:0<m.dF;·have ku:=Aa (Az hu);have kx:=Aa (Az hx);go_wp2_with fail;refine (D2.out hu _).mono ?_;rintro e w5 ⟨rfl,hb5⟩;have hB5:=hB4.trans (hb5.mono hB4.size);have hb5:=hb4.trans (hb5.mono hb4.size);clear c10 c11;have c10:=K.out w5 hb5 10 _ rfl;have c11:=K.out w5 hb5 11 _ rfl;go_wp2_with fail;refine (D3.out _).mono ?_;rintro e w6 ⟨rfl,hb6⟩;have hB6:=hB5.trans (hb6.mono hB5.size);clear c10 c11;go_wp2;refine Au (Bc rfl _ _ _) rfl ?_;refine⟨congrArg (fun b=>Ending.returned (.tuple #[.string b,.int .i64 0])) ?_,hB6⟩;rw [<- hR.out];clear hR D1 D2 D3 K hB4 hB3 hB2 hB1 hb4 hb3 hb2 hb1;simp only [Nf, *,ku.out,kx.out,decide_true,decide_false,Ns,Na,Ie,Int.reduceEq,bytes_append,D9,Dn,Gw]
   ·have ku:=Aa (Az hu);have kx:=Aa (Aq hx);go_wp2_with fail;refine (D2.out hu _).mono ?_;rintro e w5 ⟨rfl,hb5⟩;have hB5:=hB4.trans (hb5.mono hB4.size);have hb5:=hb4.trans (hb5.mono hb4.size);clear c10 c11;have c10:=K.out w5 hb5 10 _ rfl;have c11:=K.out w5 hb5 11 _ rfl;go_wp2;refine Au (Bc rfl _ _ _) rfl ?_;refine⟨congrArg (fun b=>Ending.returned (.tuple #[.string b,.int .i64 0])) ?_,hB5⟩;rw [<- hR.out];clear hR D1 D2 D3 K hB4 hB3 hB2 hB1 hb4 hb3 hb2 hb1;simp only [Nf, *,ku.out,kx.out,decide_true,decide_false,Ns,Na,Ie,Int.reduceEq,bytes_append,D9,Dn,Gw]
   ·have ku:=Aa (Aq hu);have kx:=Aa (Az hx);go_wp2_with fail;refine (D3.out _).mono ?_;rintro e w6 ⟨rfl,hb6⟩;have hB6:=hB4.trans (hb6.mono hB4.size);clear c10 c11;go_wp2;refine Au (Bc rfl _ _ _) rfl ?_;refine⟨congrArg (fun b=>Ending.returned (.tuple #[.string b,.int .i64 0])) ?_,hB6⟩;rw [<- hR.out];clear hR D1 D2 D3 K hB4 hB3 hB2 hB1 hb4 hb3 hb2 hb1;simp only [Nf, *,ku.out,kx.out,decide_true,decide_false,Ns,Na,Ie,Int.reduceEq,bytes_append,D9,Dn,Gw]
   ·have ku:=Aa (Aq hu);have kx:=Aa (Aq hx);go_wp2;refine Au (Bc rfl _ _ _) rfl ?_;refine⟨congrArg (fun b=>Ending.returned (.tuple #[.string b,.int .i64 0])) ?_,hB4⟩;rw [<- hR.out];clear hR D1 D2 D3 K hB4 hB3 hB2 hB1 hb4 hb3 hb2 hb1;simp only [Nf, *,ku.out,kx.out,decide_true,decide_false,Ns,Na,Ie,Int.reduceEq,bytes_append,D9,Dn,Gw]
end
section
open Go.Lib Go.Proofs.Tryz Go.RowKit Go.Shelf Go.Sort CH
attribute [local irreducible] wpQuiet
def chH (k:Int) (id ps:List UInt8):List UInt8 :=
 if k=1 then ([97,100,100,32]:List UInt8)++id++[32]++ps else if k=2 then ([114,101,109,111,118,101,32]:List UInt8)++id++[32]++ps else if k=3 then ([99,111,114,114,101,99,116,32]:List UInt8)++id else ([118,111,105,100,32]:List UInt8)++id
def K7 (n:CH.Name):List UInt8:=[32,34]++aT n++[34]
def chT (k:Int) (id ps:List UInt8) (ns:List CH.Name):List UInt8:=chH k id ps++(ns.map K7).flatten
theorem Qd (k:Int) (id ps:List UInt8) (ns:List CH.Name) (n:CH.Name):chT k id ps (ns++[n])=chT k id ps ns++K7 n:=by unfold chT;simp
theorem Cls (A:List (List UInt8)) (hA:A≠[]) (ns:List CH.Name):CH.join [32] (A++ns.map fun n=>[34]++aT n++[34])=CH.join [32] A++(ns.map K7).flatten:=by
 induction ns generalizing A with
 |nil=>simp
 |cons n l ih =>have h:=ih (A++[[34]++aT n++[34]]) sM;rw [D9,List.singleton_append] at h;rw [Ew,h,M2,Ak hA];simp [K7]
theorem Tn {c:CH.Change} {t:List UInt8} (h:bJ c=some t):dD c=true/\(1<=c.kind/\c.kind<=4)/\t=chT c.kind c.id (ZK c.pos) c.entry.names++[59]:=by
 unfold bJ at h;split at h
 ·rename_i hok;have hk:1<=c.kind/\c.kind<=4:=by
   unfold dD at hok;dsimp only at hok;split at hok;·cases hok
   ·rename_i h1;simp only [Dw,Ea,Bq,Ky,Ii,Int.not_lt] at h1;omega
  cases h;refine⟨hok,hk,?_⟩;rw [Cls _ sM];unfold chT chH CH.kindWord;rcases (oM:c.kind=1\/c.kind=2\/c.kind=3\/c.kind=4) with e|e|e|e;all_goals simp [e,CH.join]
 ·cases h
theorem Zl (c:CH.Change) (v:ZC) (w:ZB) (t:List UInt8) (hv:Er w w v c.entry.names) (hS:∀ n∈c.entry.names,Gd n.words) (h:bJ c=some t) : ZE prog 75 #[.agg (Bb c v).toArray] w (Ret w (.tuple #[↑t,.int .i64 0])):=by
 obtain⟨hok,hk,rfl⟩:=Tn h;have hS6:∀ n∈c.entry.names,∀ l∈n.words,l.length<=1000000:=fun n hn l hl=>Ag ((hS n hn).2 l hl) oM;have F:=Aa fun (W:ZB) (hb:Below w w W)=>Zj c v W (I0.grow hv hb) hS6 hok;have hf:CH.isName c.id=true/\((c.kind=1\/c.kind=2)->0<=c.pos/\c.pos<=144001439)/\c.entry.names.length<=8/\∀ n∈c.entry.names,bU n=true:=by
  unfold dD at hok;dsimp only at hok;split at hok;·cases hok
  ·rename_i h1;simp only [Dw,Ea,Bq,Ky,Ii,Int.not_lt] at h1;refine⟨ig h1.1.1,?_⟩;unfold dU bg at hok;rcases (oM:c.kind=1\/c.kind=2\/c.kind=3\/c.kind=4) with e|e|e|e;all_goals simp [e] at hok ⊢;first |(obtain⟨⟨a1,a2,a3,a4,a5⟩,a6⟩:=hok;exact⟨oM,a4,a5⟩) |(obtain⟨⟨a1,a2,a3,a4,a5⟩,a6⟩:=hok;exact⟨a4,a5⟩) |(obtain⟨⟨a1,a2⟩,a6⟩:=hok;rw [a2];simp;omega) |(obtain⟨⟨a1,a2⟩,a6⟩:=hok;rw [a2];simp)
 obtain⟨hn,hp,hN8,hno⟩:=hf;have hil:=(A9 hn).2;have C:=Aa fun (k:Nat) (x:CH.Name) (hk:c.entry.names[k]?=some x)=>fun (vw:ZC) (W:ZB) (hvw:Strs W W vw x.words)=>Uw x vw W hvw (hS6 x (Ap hk)) (hno x (Ap hk)) (Ag (Pa x (hno x (Ap hk)) (hS x (Ap hk))) oM);have HQ:=Aa fun (k:Nat) (x:CH.Name) (hk:c.entry.names[k]?=some x)=>Pa x (hno x (Ap hk)) (hS x (Ap hk));have D:=Aa fun (h:0<=c.pos/\c.pos<=144001439) (W:ZB)=>F0 c.pos W h.1 oM;have hpl:(0<=c.pos/\c.pos<=144001439)->(ZK c.pos).length<=21:=fun h=>Ng h.1 h.2;have hB0:=Aa fun o=>(Ac _ w).alloc nR o;obtain⟨a,cap,rfl,hl,hcap,hne⟩:=hv;replace hne:=Aa hne;obtain⟨R,hR⟩:∃ R,Hid (chT c.kind c.id (ZK c.pos) c.entry.names++[59]=R):=⟨_,Aa rfl⟩
 rw [hR.out];dsimp only [Bb] at *;generalize ZK c.pos=ps at *;generalize c.pos=ps0 at *;generalize c.entry.names=ns at *;generalize c.entry.id=eid at *;generalize c.id=id at *;generalize c.kind=kd at *;obtain⟨N,hN⟩:∃ N,ns.length=N:=⟨_,rfl⟩
 rw [hN] at hl hN8 F ⊢;replace hN:=Aa hN;clear hS hS6 hno h hok hn;rcases (oM:kd=1\/kd=2\/kd=3\/kd=4) with rfl|rfl|rfl|rfl
 ·have hpp:=hp oM;have hpl:=hpl hpp;have hq1:¬ 9223372036854775807<4+List.length id:=oM;have hq2:¬ 9223372036854775807<4+List.length id+1:=oM;have hq3:¬ 9223372036854775807<4+List.length id+1+ps.length:=oM;have D:=Aa (D.out hpp);clear hpp hp;go_enter func75,ntmps75;go_wp2_with fail;have B:=hB0.out;generalize hWd:w.alloc _=W at *;have hBW:Below w w W:=by rw [<- hWd];exact B _
  have K:=Aa (Cp (C:=[.int .i64 1,↑id,↑eid,.slice a N cap,↑ps0]) hWd);clear hWd hB0 B;refine (F.out _ hBW).mono ?_;rintro e w1 ⟨rfl,hb1⟩;have hB1:=hBW.trans (hb1.mono hBW.size);have c0:=K.out w1 hb1 0 _ rfl;have c1:=K.out w1 hb1 1 _ rfl;have c4:=K.out w1 hb1 4 _ rfl;clear F;have g1:=@Ae _ _ _ c1;have g4:=@Ae _ _ _ c4;go_wp2_with fail;refine Bd kR kR ?_;repeat (quiet_step ((with_reducible exact Bj (D.out _))))
  refine C9 ?_;intro wq hbq;replace hbq:=At hbq;clear g1 g4;have hBw:=Aa (hB1.trans (hbq.mono hB1.size));have hbw:=Aa (hb1.trans (hbq.mono hb1.size));clear D c0 c1 c4 hbq;have c0:=K.out _ hbw.out 0 _ rfl;have c1:=K.out _ hbw.out 1 _ rfl;go_wp2_with fail;go_loopw [4,5] (fun sv iv wr=>∃ (k:Nat) (t:List UInt8),k<=N/\iv=↑k/\sv=↑t/\t.length<=100+k*61000/\Hid (t=chT 1 id ps (ns.take k))/\Hid (Below w w wr)/\Hid (Below W W wr)) (fun _ iv _=>N - (ZG iv).toNat);case atStart=>exact⟨0,([97,100,100,32]:List UInt8)++id++[32]++ps,Bg _,rfl,by simp only [bytes_append],by simp only [Aj,Ar,Bo];omega,Aa (by simp [chT,chH]),hBw,hbw⟩
  case round =>
   obtain⟨k,t,hk,rfl,rfl,htl,ht,hBr,hb⟩:=hrel;have c3:=K.out wr hb.out 3 _ rfl;by_cases hlt:k<N
   ·obtain⟨b,off,rfl,hbl,hcells⟩:=hne.out (by intro h;have:=hN.out;simp [h] at this;omega);obtain⟨n,hn'⟩:∃ n,ns[k]?=some n:=⟨_,Ad (by rw [hN.out];exact hlt)⟩
    obtain⟨vw,d1,d2,d3⟩:=hcells k n hn';have e1:=(hBr.out.cell (p:=⟨b,off+k*2,none⟩) hbl).trans d1;have e2:=(hBr.out.cell (p:=⟨b,off+k*2+1,none⟩) hbl).trans d2;have F:=Aa (C.out k n hn' vw wr ((d3.below hBr.out nR).mono hBr.out.size));have hs:chT 1 id ps (ns.take (k+1))=t++K7 n:=by rw [Eo,hn',Gv,Qd,ht.out]
    have hql:=HQ.out k n hn';have hqd:K7 n=[32,34]++aT n++[34]:=rfl;clear hcells d1 d2 hn' ht;obtain⟨vwa,vwc,rfl,_,_⟩:=d3;generalize n.words.length=nw at *;generalize aT n=nt at *;rw [hqd] at hs;have z0:(0:Int)<=(k:Int):=oM;have zk:((k:Int)).toNat=k:=oM;have hk':(k:Int)<(N:Int):=oM;have hs':=Aa hs.symm;have hkm:k*61000<=8*61000:=Dj _ oM;clear hs hqd;go_wp2_with fail;refine F.out.mono ?_;rintro e w2 ⟨rfl,hb2⟩;have pR:=Aa (hBr.out.trans (hb2.mono hBr.out.size));have hb2:=Aa (hb.out.trans (hb2.mono hb.out.size));clear F e1 e2 c3 hBr hb;go_wp2_with fail;refine⟨⟨k+1,t++([32,34]++nt++[34]),oM,by go_num,by simp only [bytes_append,D9],by simp only [Aj,Ar,Bo];omega,hs',pR,hb2⟩,by simp [ZG];omega⟩
   ·obtain rfl:k=N:=oM;have htR:t++[59]=R:=by rw [ht.out,<- hR.out,Di (by rw [hN.out];exact Bv _)]
    have hbx:(⟨t.toArray⟩:ByteArray)++⟨#[59]⟩=⟨R.toArray⟩:=by rw [<- htR,bytes_append]
    have hkm:k*61000<=8*61000:=Dj _ oM;clear ht htR;go_wp2;refine Au (Bc rfl _ _ _) rfl ?_;exact⟨by first|rfl|(rw [hbx];rfl),hBr.out⟩
 ·have hpp:=hp oM;have hpl:=hpl hpp;have hq1:¬ 9223372036854775807<7+List.length id:=oM;have hq2:¬ 9223372036854775807<7+List.length id+1:=oM;have hq3:¬ 9223372036854775807<7+List.length id+1+ps.length:=oM;have D:=Aa (D.out hpp);clear hpp hp;go_enter func75,ntmps75;go_wp2_with fail;have B:=hB0.out;generalize hWd:w.alloc _=W at *;have hBW:Below w w W:=by rw [<- hWd];exact B _
  have K:=Aa (Cp (C:=[.int .i64 2,↑id,↑eid,.slice a N cap,↑ps0]) hWd);clear hWd hB0 B;refine (F.out _ hBW).mono ?_;rintro e w1 ⟨rfl,hb1⟩;have hB1:=hBW.trans (hb1.mono hBW.size);have c0:=K.out w1 hb1 0 _ rfl;have c1:=K.out w1 hb1 1 _ rfl;have c4:=K.out w1 hb1 4 _ rfl;clear F;have g1:=@Ae _ _ _ c1;have g4:=@Ae _ _ _ c4;go_wp2_with fail;refine Bd kR kR ?_;repeat (quiet_step ((with_reducible exact Bj (D.out _))))
  refine C9 ?_;intro wq hbq;replace hbq:=At hbq;clear g1 g4;have hBw:=Aa (hB1.trans (hbq.mono hB1.size));have hbw:=Aa (hb1.trans (hbq.mono hb1.size));clear D c0 c1 c4 hbq;have c0:=K.out _ hbw.out 0 _ rfl;have c1:=K.out _ hbw.out 1 _ rfl;go_wp2_with fail;go_loopw [4,5] (fun sv iv wr=>∃ (k:Nat) (t:List UInt8),k<=N/\iv=↑k/\sv=↑t/\t.length<=100+k*61000/\Hid (t=chT 2 id ps (ns.take k))/\Hid (Below w w wr)/\Hid (Below W W wr)) (fun _ iv _=>N - (ZG iv).toNat);case atStart=>exact⟨0,([114,101,109,111,118,101,32]:List UInt8)++id++[32]++ps,Bg _,rfl,by simp only [bytes_append],by simp only [Aj,Ar,Bo];omega,Aa (by simp [chT,chH]),hBw,hbw⟩
  case round =>
   obtain⟨k,t,hk,rfl,rfl,htl,ht,hBr,hb⟩:=hrel;have c3:=K.out wr hb.out 3 _ rfl;by_cases hlt:k<N
   ·obtain⟨b,off,rfl,hbl,hcells⟩:=hne.out (by intro h;have:=hN.out;simp [h] at this;omega);obtain⟨n,hn'⟩:∃ n,ns[k]?=some n:=⟨_,Ad (by rw [hN.out];exact hlt)⟩
    obtain⟨vw,d1,d2,d3⟩:=hcells k n hn';have e1:=(hBr.out.cell (p:=⟨b,off+k*2,none⟩) hbl).trans d1;have e2:=(hBr.out.cell (p:=⟨b,off+k*2+1,none⟩) hbl).trans d2;have F:=Aa (C.out k n hn' vw wr ((d3.below hBr.out nR).mono hBr.out.size));have hs:chT 2 id ps (ns.take (k+1))=t++K7 n:=by rw [Eo,hn',Gv,Qd,ht.out]
    have hql:=HQ.out k n hn';have hqd:K7 n=[32,34]++aT n++[34]:=rfl;clear hcells d1 d2 hn' ht;obtain⟨vwa,vwc,rfl,_,_⟩:=d3;generalize n.words.length=nw at *;generalize aT n=nt at *;rw [hqd] at hs;have z0:(0:Int)<=(k:Int):=oM;have zk:((k:Int)).toNat=k:=oM;have hk':(k:Int)<(N:Int):=oM;have hs':=Aa hs.symm;have hkm:k*61000<=8*61000:=Dj _ oM;clear hs hqd;go_wp2_with fail;refine F.out.mono ?_;rintro e w2 ⟨rfl,hb2⟩;have pR:=Aa (hBr.out.trans (hb2.mono hBr.out.size));have hb2:=Aa (hb.out.trans (hb2.mono hb.out.size));clear F e1 e2 c3 hBr hb;go_wp2_with fail;refine⟨⟨k+1,t++([32,34]++nt++[34]),oM,by go_num,by simp only [bytes_append,D9],by simp only [Aj,Ar,Bo];omega,hs',pR,hb2⟩,by simp [ZG];omega⟩
   ·obtain rfl:k=N:=oM;have htR:t++[59]=R:=by rw [ht.out,<- hR.out,Di (by rw [hN.out];exact Bv _)]
    have hbx:(⟨t.toArray⟩:ByteArray)++⟨#[59]⟩=⟨R.toArray⟩:=by rw [<- htR,bytes_append]
    have hkm:k*61000<=8*61000:=Dj _ oM;clear ht htR;go_wp2;refine Au (Bc rfl _ _ _) rfl ?_;exact⟨by first|rfl|(rw [hbx];rfl),hBr.out⟩
 ·clear hp hpl D;go_enter func75,ntmps75;go_wp2_with fail;have B:=hB0.out;generalize hWd:w.alloc _=W at *;have hBW:Below w w W:=by rw [<- hWd];exact B _
  have K:=Aa (Cp (C:=[.int .i64 3,↑id,↑eid,.slice a N cap,↑ps0]) hWd);clear hWd hB0 B;refine (F.out _ hBW).mono ?_;rintro e w1 ⟨rfl,hb1⟩;have hB1:=hBW.trans (hb1.mono hBW.size);have c0:=K.out w1 hb1 0 _ rfl;have c1:=K.out w1 hb1 1 _ rfl;have c4:=K.out w1 hb1 4 _ rfl;clear F;have hBw:=Aa hB1;have hbw:=Aa hb1;go_wp2_with fail;go_loopw [4,5] (fun sv iv wr=>∃ (k:Nat) (t:List UInt8),k<=N/\iv=↑k/\sv=↑t/\t.length<=100+k*61000/\Hid (t=chT 3 id ps (ns.take k))/\Hid (Below w w wr)/\Hid (Below W W wr)) (fun _ iv _=>N - (ZG iv).toNat);case atStart=>exact⟨0,([99,111,114,114,101,99,116,32]:List UInt8)++id,Bg _,rfl,by simp only [bytes_append],by simp only [Aj,Ar,Bo];omega,Aa (by simp [chT,chH]),hBw,hbw⟩
  case round =>
   obtain⟨k,t,hk,rfl,rfl,htl,ht,hBr,hb⟩:=hrel;have c3:=K.out wr hb.out 3 _ rfl;by_cases hlt:k<N
   ·obtain⟨b,off,rfl,hbl,hcells⟩:=hne.out (by intro h;have:=hN.out;simp [h] at this;omega);obtain⟨n,hn'⟩:∃ n,ns[k]?=some n:=⟨_,Ad (by rw [hN.out];exact hlt)⟩
    obtain⟨vw,d1,d2,d3⟩:=hcells k n hn';have e1:=(hBr.out.cell (p:=⟨b,off+k*2,none⟩) hbl).trans d1;have e2:=(hBr.out.cell (p:=⟨b,off+k*2+1,none⟩) hbl).trans d2;have F:=Aa (C.out k n hn' vw wr ((d3.below hBr.out nR).mono hBr.out.size));have hs:chT 3 id ps (ns.take (k+1))=t++K7 n:=by rw [Eo,hn',Gv,Qd,ht.out]
    have hql:=HQ.out k n hn';have hqd:K7 n=[32,34]++aT n++[34]:=rfl;clear hcells d1 d2 hn' ht;obtain⟨vwa,vwc,rfl,_,_⟩:=d3;generalize n.words.length=nw at *;generalize aT n=nt at *;rw [hqd] at hs;have z0:(0:Int)<=(k:Int):=oM;have zk:((k:Int)).toNat=k:=oM;have hk':(k:Int)<(N:Int):=oM;have hs':=Aa hs.symm;have hkm:k*61000<=8*61000:=Dj _ oM;clear hs hqd;go_wp2_with fail;refine F.out.mono ?_;rintro e w2 ⟨rfl,hb2⟩;have pR:=Aa (hBr.out.trans (hb2.mono hBr.out.size));have hb2:=Aa (hb.out.trans (hb2.mono hb.out.size));clear F e1 e2 c3 hBr hb;go_wp2_with fail;refine⟨⟨k+1,t++([32,34]++nt++[34]),oM,by go_num,by simp only [bytes_append,D9],by simp only [Aj,Ar,Bo];omega,hs',pR,hb2⟩,by simp [ZG];omega⟩
   ·obtain rfl:k=N:=oM;have htR:t++[59]=R:=by rw [ht.out,<- hR.out,Di (by rw [hN.out];exact Bv _)]
    have hbx:(⟨t.toArray⟩:ByteArray)++⟨#[59]⟩=⟨R.toArray⟩:=by rw [<- htR,bytes_append]
    have hkm:k*61000<=8*61000:=Dj _ oM;clear ht htR;go_wp2;refine Au (Bc rfl _ _ _) rfl ?_;exact⟨by first|rfl|(rw [hbx];rfl),hBr.out⟩
 ·clear hp hpl D;go_enter func75,ntmps75;go_wp2_with fail;have B:=hB0.out;generalize hWd:w.alloc _=W at *;have hBW:Below w w W:=by rw [<- hWd];exact B _
  have K:=Aa (Cp (C:=[.int .i64 4,↑id,↑eid,.slice a N cap,↑ps0]) hWd);clear hWd hB0 B;refine (F.out _ hBW).mono ?_;rintro e w1 ⟨rfl,hb1⟩;have hB1:=hBW.trans (hb1.mono hBW.size);have c0:=K.out w1 hb1 0 _ rfl;have c1:=K.out w1 hb1 1 _ rfl;have c4:=K.out w1 hb1 4 _ rfl;clear F;have hBw:=Aa hB1;have hbw:=Aa hb1;go_wp2_with fail;go_loopw [4,5] (fun sv iv wr=>∃ (k:Nat) (t:List UInt8),k<=N/\iv=↑k/\sv=↑t/\t.length<=100+k*61000/\Hid (t=chT 4 id ps (ns.take k))/\Hid (Below w w wr)/\Hid (Below W W wr)) (fun _ iv _=>N - (ZG iv).toNat);case atStart=>exact⟨0,([118,111,105,100,32]:List UInt8)++id,Bg _,rfl,by simp only [bytes_append],by simp only [Aj,Ar,Bo];omega,Aa (by simp [chT,chH]),hBw,hbw⟩
  case round =>
   obtain⟨k,t,hk,rfl,rfl,htl,ht,hBr,hb⟩:=hrel;have c3:=K.out wr hb.out 3 _ rfl;by_cases hlt:k<N
   ·obtain⟨b,off,rfl,hbl,hcells⟩:=hne.out (by intro h;have:=hN.out;simp [h] at this;omega);obtain⟨n,hn'⟩:∃ n,ns[k]?=some n:=⟨_,Ad (by rw [hN.out];exact hlt)⟩
    obtain⟨vw,d1,d2,d3⟩:=hcells k n hn';have e1:=(hBr.out.cell (p:=⟨b,off+k*2,none⟩) hbl).trans d1;have e2:=(hBr.out.cell (p:=⟨b,off+k*2+1,none⟩) hbl).trans d2;have F:=Aa (C.out k n hn' vw wr ((d3.below hBr.out nR).mono hBr.out.size));have hs:chT 4 id ps (ns.take (k+1))=t++K7 n:=by rw [Eo,hn',Gv,Qd,ht.out]
    have hql:=HQ.out k n hn';have hqd:K7 n=[32,34]++aT n++[34]:=rfl;clear hcells d1 d2 hn' ht;obtain⟨vwa,vwc,rfl,_,_⟩:=d3;generalize n.words.length=nw at *;generalize aT n=nt at *;rw [hqd] at hs;have z0:(0:Int)<=(k:Int):=oM;have zk:((k:Int)).toNat=k:=oM;have hk':(k:Int)<(N:Int):=oM;have hs':=Aa hs.symm;have hkm:k*61000<=8*61000:=Dj _ oM;clear hs hqd;go_wp2_with fail;refine F.out.mono ?_;rintro e w2 ⟨rfl,hb2⟩;have pR:=Aa (hBr.out.trans (hb2.mono hBr.out.size));have hb2:=Aa (hb.out.trans (hb2.mono hb.out.size));clear F e1 e2 c3 hBr hb;go_wp2_with fail;refine⟨⟨k+1,t++([32,34]++nt++[34]),oM,by go_num,by simp only [bytes_append,D9],by simp only [Aj,Ar,Bo];omega,hs',pR,hb2⟩,by simp [ZG];omega⟩
   ·obtain rfl:k=N:=oM;have htR:t++[59]=R:=by rw [ht.out,<- hR.out,Di (by rw [hN.out];exact Bv _)]
    have hbx:(⟨t.toArray⟩:ByteArray)++⟨#[59]⟩=⟨R.toArray⟩:=by rw [<- htR,bytes_append]
    have hkm:k*61000<=8*61000:=Dj _ oM;clear ht htR;go_wp2;refine Au (Bc rfl _ _ _) rfl ?_;exact⟨by first|rfl|(rw [hbx];rfl),hBr.out⟩
end
section
open Go.Lib Go.Proofs.Tryz Go.RowKit Go.Shelf Go.Sort CH
attribute [local irreducible] wpQuiet
theorem Yk (v:ZC) (ls:List (List UInt8)) (s:List UInt8) (w:ZB) (hv:Strs w w v ls) (h:∀ x∈ls,(x==s)=false) : ZE prog 205 #[v,↑s] w (Ret w (.bool false)):=by
 obtain⟨a,cap,rfl,hl,hcap,hne⟩:=hv;replace hne:=Aa hne;replace h:=Aa h;obtain⟨N,hN⟩:∃ N,ls.length=N:=⟨_,rfl⟩
 rw [hN] at hl ⊢;replace hN:=Aa hN;go_enter func205,ntmps205;go_wp2_with fail;go_loopw [5] (fun i wr=>∃ k:Nat,k<=N/\i=↑k/\wr=w) (fun i _=>N - (ZG i).toNat);case atStart=>exact⟨0,Bg _,rfl,rfl⟩
 case round =>
  obtain⟨k,hk,rfl,rfl⟩:=hrel;by_cases hlt:k<N
  ·obtain⟨b,off,rfl,hbl,hcells⟩:=hne.out (by intro h;have:=hN.out;simp [h] at this;omega);obtain⟨l,hl'⟩:∃ l,ls[k]?=some l:=⟨_,Ad (by rw [hN.out];exact hlt)⟩
   have e1:=hcells k l hl';have q1:=h.out l (Ap hl');have q2:((⟨l.toArray⟩:ByteArray)==⟨s.toArray⟩)=false:=by rw [Cy];exact q1
   have z0:(0:Int)<=(k:Int):=oM;have zk:((k:Int)).toNat=k:=oM;have hk':(k:Int)<(N:Int):=oM;clear hcells hl';go_wp2;go_roundw;case rel=>exact⟨k+1,oM,by go_num,by first|rfl|trivial⟩
   case measure=>simp [ZG];omega
  ·obtain rfl:k=N:=oM;go_wp2;go_ret;exact⟨rfl,Ac _ _⟩
theorem Fam (a:Option Addr) (cap:Nat) (s:List UInt8) (w:ZB) : ZE prog 139 #[.slice a 0 cap,↑s] w (Ret w (.int .i64 (-1))):=by
 go_enter func139,ntmps139;go_wp2_with fail;go_loopw [5] (fun i wr=>i=.int .i64 0/\wr=w) (fun _ _=>0);case atStart=>exact⟨rfl,rfl⟩
 case round =>obtain⟨rfl,rfl⟩:=hrel;go_wp2;go_ret;exact⟨rfl,Ac _ _⟩
structure tN (h:aS):Prop where
 id:CH.isName h.id=true
 company:CH.isName h.company=true
 holder:CH.isName h.holder=true
 nom:h.ah=[]\/CH.isName h.ah=true/\h.joint.length=0
 wS:h.aA=[]\/CH.isName h.aA=true
 j4:h.joint.length<=4
 jn:∀ x∈h.joint,CH.isName x=true
 jt:∀ (j k:Nat) (x y:List UInt8),h.joint[j]?=some x->h.joint[k]?=some y->j<k->(x==y)=false
 jh:∀ x∈h.joint,(x==h.holder)=false
 ch:(h.company==h.holder)=false
 cn:(h.company==h.ah)=false
 cj:∀ x∈h.joint,(x==h.company)=false
 cap:0<=h.capital/\h.capital<=100
 vot:0<=h.bM/\h.bM<=100
 st:0<=h.start/\h.start<=100000
 en:h.stop = -1\/0<=h.stop/\h.stop<=100000/\h.start<h.stop
theorem Rm {h:aS} (hh:bK h=true):tN h:=by
 unfold bK CH.within at hh
 simp only [Am,Dw,Ea,Dl,Bq,Gh,Jf,Es,J9,Nat.not_lt] at hh
 obtain⟨⟨⟨⟨⟨⟨⟨⟨⟨a1,a2⟩,a3⟩,a4⟩,a5⟩,a6⟩,a7⟩,a8,a9⟩,⟨⟨b1,b2⟩,b3⟩,b4⟩,b5,b6⟩:=hh
 have hnt:=Wo (h.holder::h.joint) a9
 have hc:=b1
 rw [Lj,Es] at hc
 have hne:∀ {x y:List UInt8},x≠y->(x==y)=false:=fun e=>by simpa using e
 exact {
  id:=a1
  company:=a2
  holder:=a3
  nom:=by
   rcases a4 with e|e
   ·exact .inl e
   ·refine .inr ⟨e,?_⟩
    rcases a7 with f|f
    ·have:=(A9 e).1
     simp only [bne_eq_false_iff_eq] at f
     rw [f] at this
     simp at this
    ·omega
  wS:=a5
  j4:=a6
  jn:=fun x hx=>Dt.1 a8 x hx
  jt:=fun j k x y hj hk hlt=>hnt (j+1) (k+1) x y (by simpa using hj) (by simpa using hk) oM
  jh:=fun x hx=>by
   obtain⟨j,hj⟩:=Gi.1 hx
   have:=hnt 0 (j+1) h.holder x rfl (by simpa using hj) oM
   simp only [Gx,ne_eq] at this ⊢
   exact fun e=>this e.symm
  ch:=hne fun e=>hc (by rw [e];simp)
  cn:=b2
  cj:=fun x hx=>hne fun e=>hc (by rw [<- e];exact Iy _ hx)
  cap:=b3
  vot:=b4
  st:=b5
  en:=by omega }
end
section
open Go.Lib Go.Proofs.Tryz Go.RowKit Go.Shelf Go.Sort CH
attribute [local irreducible] wpQuiet
theorem Qs (h:aS) (vj:ZC) (w:ZB) (hv:Strs w w vj h.joint) (hh:bK h=true) : ZE prog 138 #[.agg (A4 h vj).toArray] w (Ret w (.bool true)):=by
 have H:=Rm hh;have T1:=Aa fun (W:ZB)=>Hk h.id W H.id;have T2:=Aa fun (W:ZB)=>Hk h.company W H.company;have T3:=Aa fun (W:ZB)=>Hk h.holder W H.holder;have T4:=Aa fun (e:CH.isName h.ah=true) (W:ZB)=>Hk h.ah W e;have T5:=Aa fun (e:CH.isName h.aA=true) (W:ZB)=>Hk h.aA W e;have TC:=Aa fun (W:ZB) (hb:Below w w W)=>Yk vj h.joint h.company W ((hv.below hb nR).mono hb.size) H.cj;have TJ:=Aa fun (k:Nat) (x:List UInt8) (hx:h.joint[k]?=some x) (W:ZB)=>Hk x W (H.jn x (Ap hx));have HJ:=Aa H.jh;have HT:=Aa H.jt;have Y1:=Aa fun (W:ZB)=>U0 h.start W;have e1:CH.within h.start 100000=true:=by unfold CH.within;rw [decide_eq_true H.st.1,decide_eq_true H.st.2];rfl
 rw [e1] at Y1;have Y2:=Aa fun (e:CH.within h.stop 100000=true) (W:ZB)=>(show ZE prog 206 #[↑h.stop] W (Ret W (.bool true)) from by have:=U0 h.stop W;rw [e] at this;exact this)
 have hB0:=Aa fun o=>(Ac _ w).alloc nR o;have wW:=H.nom;have hpl:=H.wS;have hj4:=H.j4;have hen:=H.en;have s1:((⟨h.company.toArray⟩:ByteArray)==⟨h.holder.toArray⟩)=false:=by rw [Cy];exact H.ch
 have s2:((⟨h.company.toArray⟩:ByteArray)==⟨h.ah.toArray⟩)=false:=by rw [Cy];exact H.cn
 have s3:=H.ch;have s4:=H.cn;have z1:ZH (0<=h.capital)=true:=Az H.cap.1;have z2:ZH (h.capital<=100)=true:=Az H.cap.2;have z3:ZH (0<=h.bM)=true:=Az H.vot.1;have z4:ZH (h.bM<=100)=true:=Az H.vot.2;have hcl:=(A9 H.company).1;clear H hh e1;have HV:=Aa hv;obtain⟨a,cap,rfl,hl,hcap,hne⟩:=hv;replace hne:=Aa hne;obtain⟨N,hN⟩:∃ N,h.joint.length=N:=⟨_,rfl⟩
 rw [hN] at hl wW hj4 TC;dsimp only [A4,ay,aJ] at *;rw [hN];replace hN:=Aa hN;have c1:Hid (h.ah=[]/\h.aA=[]\/h.ah=[]/\CH.isName h.aA=true\/(CH.isName h.ah=true/\N=0)/\h.aA=[]\/(CH.isName h.ah=true/\N=0)/\CH.isName h.aA=true):=Aa (by
  rcases wW with e|e <;> rcases hpl with f|f;·exact .inl ⟨e,f⟩
  ·exact .inr (.inl ⟨e,f⟩)
  ·exact .inr (.inr (.inl ⟨e,f⟩))
  ·exact .inr (.inr (.inr ⟨e,f⟩)))
 replace hen:=Aa hen;clear wW hpl hcl;go_enter func138,ntmps138;go_wp2_with fail;have B:=hB0.out;generalize hWd:w.alloc _=W at *;have hBW:Below w w W:=by rw [<- hWd];exact B _
 have K:=Aa (Cp (C:=_) hWd);clear hWd hB0 B;refine (T1.out _).mono ?_;rintro e w1 ⟨rfl,hb⟩;have c:=K.out _ hb 1 _ rfl;go_wp2_with fail;refine (T2.out _).mono ?_;rintro e w2 ⟨rfl,hb2⟩;replace hb:=hb.trans (hb2.mono hb.size);clear c hb2;have c:=K.out _ hb 2 _ rfl;go_wp2_with fail;refine (T3.out _).mono ?_;rintro e w3 ⟨rfl,hb3⟩;replace hb:=hb.trans (hb3.mono hb.size);clear c hb3 T1 T2 T3;have k1:=K.out _ hb 1 _ rfl;have k2:=K.out _ hb 2 _ rfl;have k3:=K.out _ hb 3 _ rfl;have k4:=K.out _ hb 4 _ rfl;have k5:=K.out _ hb 5 _ rfl;have hc:(h.ah=[]/\N=0)/\h.aA=[]\/(h.ah=[]/\0<N)/\h.aA=[]\/(h.ah=[]/\N=0)/\CH.isName h.aA=true\/(h.ah=[]/\0<N)/\CH.isName h.aA=true\/(CH.isName h.ah=true/\N=0)/\h.aA=[]\/(CH.isName h.ah=true/\N=0)/\CH.isName h.aA=true:=by
  rcases c1.out with⟨e4,e5⟩|⟨e4,e5⟩|⟨e4,e5⟩|⟨e4,e5⟩
  ·rcases Nat.eq_zero_or_pos N with n0|n0;·exact .inl ⟨⟨e4,n0⟩,e5⟩
   ·exact .inr (.inl ⟨⟨e4,n0⟩,e5⟩)
  ·rcases Nat.eq_zero_or_pos N with n0|n0;·exact .inr (.inr (.inl ⟨⟨e4,n0⟩,e5⟩))
   ·exact .inr (.inr (.inr (.inl ⟨⟨e4,n0⟩,e5⟩)))
  ·exact .inr (.inr (.inr (.inr (.inl ⟨e4,e5⟩))))
  ·exact .inr (.inr (.inr (.inr (.inr ⟨e4,e5⟩))))
 rcases hc with⟨⟨e4,n0⟩,e5⟩|⟨⟨e4,n0⟩,e5⟩|⟨⟨e4,n0⟩,e5⟩|⟨⟨e4,n0⟩,e5⟩|⟨⟨e4,n0⟩,e5⟩|⟨⟨e4,n0⟩,e5⟩;focus rw [e4] at k3 s2 s4;subst n0;rw [e5] at k4;go_wp2_with fail
 rotate_left;focus rw [e4] at k3 s2 s4;rw [e5] at k4;go_wp2_with fail
 rotate_left;focus rw [e4] at k3 s2 s4;subst n0;have y1:=Dm (A9 e5).1;have y2:=C6 (A9 e5).1;go_wp2_with fail;refine (T5.out e5 _).mono ?_;rintro e w5 ⟨rfl,hb5⟩;replace hb:=hb.trans (hb5.mono hb.size);clear k1 k2 k3 k4 k5;have k1:=K.out _ hb 1 _ rfl;have k2:=K.out _ hb 2 _ rfl;have k3:=K.out _ hb 3 _ rfl;have k4:=K.out _ hb 4 _ rfl;have k5:=K.out _ hb 5 _ rfl;rw [e4] at k3;go_wp2_with fail
 rotate_left;focus rw [e4] at k3 s2 s4;have y1:=Dm (A9 e5).1;have y2:=C6 (A9 e5).1;go_wp2_with fail;refine (T5.out e5 _).mono ?_;rintro e w5 ⟨rfl,hb5⟩;replace hb:=hb.trans (hb5.mono hb.size);clear k1 k2 k3 k4 k5;have k1:=K.out _ hb 1 _ rfl;have k2:=K.out _ hb 2 _ rfl;have k3:=K.out _ hb 3 _ rfl;have k4:=K.out _ hb 4 _ rfl;have k5:=K.out _ hb 5 _ rfl;rw [e4] at k3;go_wp2_with fail
 rotate_left;focus have x1:=Dm (A9 e4).1;have x2:=C6 (A9 e4).1;subst n0;go_wp2_with fail;refine (T4.out e4 _).mono ?_;rintro e w4 ⟨rfl,hb4⟩;replace hb:=hb.trans (hb4.mono hb.size);clear k1 k2 k3 k4 k5;have k1:=K.out _ hb 1 _ rfl;have k2:=K.out _ hb 2 _ rfl;have k3:=K.out _ hb 3 _ rfl;have k4:=K.out _ hb 4 _ rfl;have k5:=K.out _ hb 5 _ rfl;rw [e5] at k4;go_wp2_with fail
 rotate_left;focus have x1:=Dm (A9 e4).1;have x2:=C6 (A9 e4).1;subst n0;go_wp2_with fail;refine (T4.out e4 _).mono ?_;rintro e w4 ⟨rfl,hb4⟩;replace hb:=hb.trans (hb4.mono hb.size);clear k1 k2 k3 k4 k5;have k1:=K.out _ hb 1 _ rfl;have k2:=K.out _ hb 2 _ rfl;have k3:=K.out _ hb 3 _ rfl;have k4:=K.out _ hb 4 _ rfl;have k5:=K.out _ hb 5 _ rfl;have y1:=Dm (A9 e5).1;have y2:=C6 (A9 e5).1;go_wp2_with fail;refine (T5.out e5 _).mono ?_;rintro e w5 ⟨rfl,hb5⟩;replace hb:=hb.trans (hb5.mono hb.size);clear k1 k2 k3 k4 k5;have k1:=K.out _ hb 1 _ rfl;have k2:=K.out _ hb 2 _ rfl;have k3:=K.out _ hb 3 _ rfl;have k4:=K.out _ hb 4 _ rfl;have k5:=K.out _ hb 5 _ rfl;go_wp2_with fail
 rotate_left;all_goals
  refine (TC.out _ (hBW.trans (hb.mono hBW.size))).mono ?_;rintro e w6 ⟨rfl,hb6⟩;replace hb:=Aa (hb.trans (hb6.mono hb.size));clear k1 k2 k3 k4 k5 hb6;go_wp2_with fail;go_loopw [3] (fun iv wr=>∃ k:Nat,k<=h.joint.length/\iv=↑k/\Hid (Below W W wr)) (fun iv _=>h.joint.length - (ZG iv).toNat);case atStart=>exact⟨0,Bg _,rfl,hb⟩
  case round =>
   obtain⟨k,hk,rfl,hB⟩:=hrel;have c5:=K.out wr hB.out 5 _ rfl;have hBw:Below w w wr:=hBW.trans (hB.out.mono hBW.size);by_cases hlt:k<h.joint.length
   ·obtain⟨b,off,rfl,hbl,hcells⟩:=hne.out (by intro e;rw [e] at hlt;simp at hlt);obtain⟨x,hx⟩:∃ x,h.joint[k]?=some x:=⟨_,Ad hlt⟩
    have e1:=(hBw.cell (p:=⟨b,off+k,none⟩) hbl).trans (hcells k x hx);have c2:=K.out wr hB.out 2 _ rfl;have I:=Aa (TJ.out k x hx);have HH:=Aa fun (W':ZB) (hb':Below wr wr W')=>Yk (.slice (some ⟨b,off,none⟩) k cap) (h.joint.take k) x W' (((HV.out.take k oM).below (hBw.trans (hb'.mono hBw.size)) nR).mono (Ag hBw.size hb'.size)) (fun y hy=>by
     obtain⟨j,hj⟩:=Gi.1 hy;rw [List.getElem?_take] at hj;split at hj;·rename_i hjk;exact HT.out j k y x hj hx hjk
     ·cases hj)
    have q1:=HJ.out x (Ap hx);have q2:((⟨x.toArray⟩:ByteArray)==⟨h.holder.toArray⟩)=false:=by rw [Cy];exact q1
    have g1:=@Ae _ _ _ e1;have g2:=@Ae _ _ _ c2;have g5:=@Ae _ _ _ c5;have hj:=hN.out;rw [hj] at hlt;have z0:(0:Int)<=(k:Int):=oM;have zk:((k:Int)).toNat=k:=oM;have hcl:k<=cap:=oM;first
     |(exfalso;omega)
     |(
       have hk':(k:Int)<(N:Int):=oM
       replace hj:=Aa hj
       clear hcells hx
       go_wp2_with fail
       refine Bd kR kR ?_
       repeat (quiet_step (first|(with_reducible exact Bj (I.out _))|(with_reducible exact Bj (HH.out _ (Dv _ _ _)))))
       refine C9 ?_
       intro wq hbq
       replace hbq:=At hbq
       clear g1 g2 g5 I HH
       have hB2:=Aa (hB.out.trans (hbq.mono hB.out.size))
       clear hbq e1 c2 c5 hB hBw
       go_wp2
       go_roundw
       case rel=>exact⟨k+1,by have:=hj.out;omega,by go_num,hB2⟩
       case measure=>have:=hj.out;simp [ZG];omega)
   ·have hj:=hN.out;obtain rfl:k=h.joint.length:=oM;rw [hj] at *;have c6:=K.out wr hB.out 6 _ rfl;have c7:=K.out wr hB.out 7 _ rfl;have c8:=K.out wr hB.out 8 _ rfl;clear hj;go_wp2_with fail;refine (Y1.out _).mono ?_;rintro e w7 ⟨rfl,hb7⟩;have hB7:=hB.out.trans (hb7.mono hB.out.size);clear c5 c6 c7 c8;have c8:=K.out w7 hB7 8 _ rfl;have c9:=K.out w7 hB7 9 _ rfl;rcases hen.out with e9|⟨e9,f9,g9⟩;·rw [e9] at c9;go_wp2;go_ret;exact⟨rfl,hBW.trans (hB7.mono hBW.size)⟩
    ·have r1:(h.stop==-1)=false:=by simp;omega
     have r2:ZH (h.start<h.stop)=true:=Az g9;have Y3:=Aa (Y2.out (by unfold CH.within;rw [decide_eq_true e9,decide_eq_true f9];rfl));clear e9 f9 g9;go_wp2_with fail;refine (Y3.out _).mono ?_;rintro e w8 ⟨rfl,hb8⟩;have hB8:=hB7.trans (hb8.mono hB7.size);clear c8 c9;have c8:=K.out w8 hB8 8 _ rfl;have c9:=K.out w8 hB8 9 _ rfl;go_wp2;go_ret;exact⟨rfl,hBW.trans (hB8.mono hBW.size)⟩
end
section
open Go.Lib Go.Proofs.Tryz Go.RowKit Go.Shelf Go.Sort CH
attribute [local irreducible] wpQuiet
def G2b (w:ZB) (n:Nat) (e:Ending) (w':ZB):Prop:=∃ v ls,e=.returned v/\Ay 0 w' v ls/\ls.length<=n/\Below w w w'
theorem Ay.low {base base':Nat} {w:ZB} {v:ZC} {ls:List (List UInt8)} (h:Ay base w v ls) (hb:base'<=base):Ay base' w v ls:=by
 obtain⟨hlen,h|⟨g,cap,cur,hv,hg,h⟩⟩:=h;·exact⟨hlen,.inl h⟩
 ·exact⟨hlen,.inr ⟨g,cap,cur,hv,Ag hb hg,h⟩⟩
theorem Th {w:ZB} {g:Nat} {s:List UInt8} {T:ZJ} (h:w.heap[g]?=some (.cells #[↑s] T (0,0))):∃ B,Strs B w (.slice (some ⟨g,0,none⟩) 1 1) [s]:=by
 refine⟨g+1,some ⟨g,0,none⟩,1,rfl,Bv _,oM,fun _=>⟨g,0,rfl,Fe _,fun j l hj=>?_⟩⟩;cases j with
 |zero =>simp only [Fp,Eu] at hj;subst hj;exact (Ab h 0).trans rfl
 |succ j=>simp at hj
theorem Ay.two {base:Nat} {w:ZB} {v:ZC} {ls:List (List UInt8)} (h:Ay base w v ls):v=.slice none 0 0/\ls=[]\/∃ g cap,v=.slice (some ⟨g,0,none⟩) ls.length cap/\ls.length<=cap/\cap<=9223372036854775807:=by
 obtain⟨hlen,⟨rfl,h0⟩|⟨g,cap,cur,rfl,hb,hg,hn,hc,hsz,htk⟩⟩:=h;·exact .inl ⟨rfl,Df.1 h0⟩
 ·exact .inr ⟨g,cap,rfl,hn,by unfold maxLen at hc;omega⟩
theorem Ct {w:ZB} {o:Oper} {a:Act} {K:Act->ZB->Prop} {Q:Exit->Act->ZB->Prop} (s x:Operand) (ho:o.op=.call { callee:=.builtin .append,args:=#[s,x],argTypes:=#[22,22] }) (base:Nat) (v:ZC) (ls:List (List UInt8)) (hs:a.eval s=v) (hown:Ay base w v ls) (B:Nat) (vx:ZC) (lx:List (List UInt8)) (hx:a.eval x=vx) (hX:Strs B w vx lx) (hlen:ls.length+lx.length<=1000000) (hbase:base<=w.heap.size) (h:∀ v' w',Ay base w' v' (ls++lx)->w.grownBy w' v.ownBlock->K (a.put o.dst v') w'):o.wp prog a w K Q:=by
 obtain⟨i,hi,hz0,hz1,hz2⟩:=Jp Z1;rcases hX.source with⟨ad,c,rfl,hnews⟩|⟨c,rfl,hm,hnil⟩
 ·refine wp_append_own w s x 22 ho base 9 i _ 1 16 underlying22 hi hz0 hz1 hz2 rfl dC v ls.length _ hs hown ad lx.length c (lx.map ay) hx sM hnews ?_ ?_ ?_ hbase ?_;·intro u hu;obtain⟨l,_,rfl⟩:=Ee.1 hu;rfl
  ·unfold maxLen;omega
  ·omega
  ·intro v' w' h1 h2 _;exact h v' w' (by unfold Ay;simpa using h1) h2
 ·have hl0:lx=[]:=Df.1 hm;subst hl0;obtain⟨av,cv,rfl,hcv,_,_⟩:=hown.form;have hr:=Sd (P:=prog) w 22 o.type 9 i underlying22 hi av ls.length cv c hcv;unfold Oper.wp execOp;simp only [ho,resolve,invoke,builtin,Jb,Nb,H9,List.map_toArray,Ew,Hz,hs,hx,hr,Bo];exact h _ _ (by simpa using hown) (World.grownBy.refl _ _)
theorem E6a (v:ZC) (ls:List (List UInt8)) (s:List UInt8) (w:ZB) (hv:Ay 0 w v ls) (hn:ls.length<=1000) : ZE prog 207 #[v,↑s] w (G2b w (ls.length+1)):=by
 have hB0:Below w w w.drew:=(Ac _ w).drew;have hv0:=Aa hv;rcases hv.two with⟨rfl,rfl⟩|⟨g,cap,rfl,hl,hcap⟩
 ·clear hv hn;obtain⟨LA,hLA⟩:∃ LA,Hid (([]:List (List UInt8))=LA):=⟨_,Aa rfl⟩
  obtain⟨LB,hLB⟩:∃ LB,Hid (([]:List (List UInt8))=LB):=⟨_,Aa rfl⟩
  go_enter func207,ntmps207;go_wp2_with fail;go_loopw [5] (fun i wr=>i=.int .i64 0/\wr=w) (fun i _=>0);case atStart=>exact⟨rfl,rfl⟩
  case round =>
   obtain⟨rfl,rfl⟩:=hrel;have hA:Hid (∀ W',Below wr wr W'->Strs wr W' (.slice none 0 0) LA):=Aa fun W' _=>by rw [<- hLA.out];exact⟨none,0,rfl,Bv _,oM,fun h=>absurd rfl h⟩
   have hD:Hid (∀ W',Below wr wr W'->Strs wr W' (.slice none 0 0) LB):=Aa fun W' _=>by rw [<- hLB.out];exact⟨none,0,rfl,Bv _,oM,fun h=>absurd rfl h⟩
   have hLn:Hid (LA.length+1+LB.length<=0+1):=Aa (by rw [<- hLA.out,<- hLB.out];simp);go_wp2_with fail;refine Ej (S:=fun W'=>Below wr wr W') kR hB0 (fun hHeld=>?_);refine tk 1 (v:=?_) rfl rF hHeld ?_ ?_;rotate_left;·(intro w hSw;go_simp;try with_reducible rfl)
   (try simp only [ZF,pD,pE,pF,pA,pB,pC]);refine tk 2 (v:=?_) rfl rF hHeld ?_ ?_;rotate_left;·(intro w hSw;go_simp;try with_reducible rfl)
   (try simp only [ZF,pD,pE,pF,pA,pB,pC]);refine tk 3 (v:=?_) rfl rF hHeld ?_ ?_;rotate_left;·(intro w hSw;go_simp;try with_reducible rfl)
   (try simp only [ZF,pD,pE,pF,pA,pB,pC]);refine tk 5 (v:=?_) rfl rF hHeld ?_ ?_;rotate_left;·(intro w hSw;go_simp;try with_reducible rfl)
   (try simp only [ZF,pD,pE,pF,pA,pB,pC]);refine tk 8 (v:=?_) rfl rF hHeld ?_ ?_;rotate_left;·(intro w hSw;go_simp;try with_reducible rfl)
   (try simp only [ZF,pD,pE,pF,pA,pB,pC]);refine tk 9 (v:=?_) rfl rF hHeld ?_ ?_;rotate_left;·(intro w hSw;go_simp;try with_reducible rfl)
   (try simp only [ZF,pD,pE,pF,pA,pB,pC]);refine tk 10 (v:=?_) rfl rF hHeld ?_ ?_;rotate_left;·(intro w hSw;go_simp;try with_reducible rfl)
   (try simp only [ZF,pD,pE,pF,pA,pB,pC]);refine Fj (rs:=[0,6]) kR sM ?_;refine Ci (o:=_) rfl (fun K hK=>?_) ?_;focus
    go_simp;have hB1:Below wr wr (wr.alloc (.cells #[] 9)).drew:=((Ac _ wr).alloc nR _).drew;have hO1:Ay wr (wr.alloc (.cells #[] 9)).drew (.slice (some ⟨wr,0,none⟩) 0 0) []:=(Ha wr [] sM).below (Ac _ _).drew;have hg1:wr.heap.size<(wr.alloc (.cells #[] 9)).drew.heap.size:=by show _<(wr.alloc (.cells #[] 9)).heap.size;simp
    refine hK.out _ _ hB1 (fun hHeld=>?_);clear hK;generalize (wr.alloc (.cells #[] 9)).drew=W1 at *;(try simp only [ZF,pD,pE,pF,pA,pB,pC]);refine Fj (rs:=[4,6]) kR sM ?_;refine Ci (o:=_) rfl (fun K hK=>?_) ?_;focus rw [Aw rF];refine Ct _ _ rfl wr _ [] rfl hO1 wr _ LA rfl (hA.out W1 hB1) (by have:=hLn.out;simp;omega) hB1.size ?_;intro v2 w2 hO2 hg2;rw [Dn] at hO2;have hB2:Below wr wr w2:=hB1.grown hg2 hB1.size (fun j hj=>(D7 hO1 j hj).1);refine hK.out _ _ hB2 (fun hHeld=>?_);clear hK;(try simp only [ZF,pD,pE,pF,pA,pB,pC]);refine rk 6 rfl (fun K hK=>?_);go_simp;have hBx:Below wr wr (w2.alloc (.cells #[↑s] 9)):=hB2.alloc hB2.size _;have hOx:Ay wr (w2.alloc (.cells #[↑s] 9)) v2 LA:=hO2.below ((Ac _ w2).alloc nR _);have hXx:=Th (Ai w2 (.cells #[↑s] 9));refine hK.out _ _ hBx (fun hHeld=>?_);clear hK hB1 hO1 hO2 hg2 hB2 hg1;generalize (w2.alloc (.cells #[↑s] 9))=Wx at *;(try simp only [ZF,pD,pE,pF,pA,pB,pC])
    rotate_left;focus refine Ci (o:=_) rfl (fun K hK=>?_) Ey;go_simp;have hB2:Below wr wr (W1.alloc (.cells #[↑s] 9)):=hB1.alloc hB1.size _;have hO2:Ay wr (W1.alloc (.cells #[↑s] 9)) (.slice (some ⟨wr,0,none⟩) 0 0) []:=hO1.below ((Ac _ W1).alloc nR _);have hX2:=Ai W1 (.cells #[↑s] 9);refine hK.out _ _ hB2 (fun hHeld=>?_);clear hK;(try simp only [ZF,pD,pE,pF,pA,pB,pC]);refine rk 4 rfl (fun K hK=>?_);rw [Aw rF];refine Ct _ _ rfl wr _ [] rfl hO2 wr _ LA rfl (hA.out _ hB2) (by have:=hLn.out;simp;omega) hB2.size ?_;intro v2 Wx hOx hg2;rw [Dn] at hOx;have hBx:Below wr wr Wx:=hB2.grown hg2 hB2.size (fun j hj=>(D7 hO2 j hj).1);have hXx:=Th ((hg2.block W1 sM (fun e=>by injection e with e;dsimp only at e;omega)).trans hX2);refine hK.out _ _ hBx (fun hHeld=>?_);clear hK hB1 hO1 hO2 hg2 hB2 hX2 hg1;(try simp only [ZF,pD,pE,pF,pA,pB,pC])
    rotate_left
   rotate_left 2;focus
    refine Ci (o:=_) rfl (fun K hK=>?_) Ey;go_simp;have hB1:Below wr wr (wr.alloc (.cells #[↑s] 9)).drew:=((Ac _ wr).alloc nR _).drew;have hX1:(wr.alloc (.cells #[↑s] 9)).drew.heap[wr.heap.size]?=_:=Ai wr (.cells #[↑s] 9);have hg1:wr.heap.size<(wr.alloc (.cells #[↑s] 9)).drew.heap.size:=by show _<(wr.alloc (.cells #[↑s] 9)).heap.size;simp
    refine hK.out _ _ hB1 (fun hHeld=>?_);clear hK;generalize (wr.alloc (.cells #[↑s] 9)).drew=W1 at *;(try simp only [ZF,pD,pE,pF,pA,pB,pC]);refine rk 0 rfl (fun K hK=>?_);go_simp;have hB2:Below wr wr (W1.alloc (.cells #[] 9)):=hB1.alloc hB1.size _;have hO2:Ay wr (W1.alloc (.cells #[] 9)) (.slice (some ⟨W1,0,none⟩) 0 0) []:=(Ha W1 [] sM).low hB1.size;have hX2:=(((Ac _ W1).alloc nR (.cells #[] 9)).block wr.heap.size hg1).trans hX1;refine hK.out _ _ hB2 (fun hHeld=>?_);clear hK;(try simp only [ZF,pD,pE,pF,pA,pB,pC]);refine rk 4 rfl (fun K hK=>?_);rw [Aw rF];refine Ct _ _ rfl wr _ [] rfl hO2 wr _ LA rfl (hA.out _ hB2) (by have:=hLn.out;simp;omega) hB2.size ?_;intro v2 Wx hOx hg2;rw [Dn] at hOx;have hBx:Below wr wr Wx:=hB2.grown hg2 hB2.size (fun j hj=>(D7 hO2 j hj).1);have hXx:=Th ((hg2.block wr (by simp;omega) (fun e=>by injection e with e;dsimp only at e;omega)).trans hX2);refine hK.out _ _ hBx (fun hHeld=>?_);clear hK hB1 hO2 hg2 hB2 hX2 hX1 hg1;(try simp only [ZF,pD,pE,pF,pA,pB,pC])
   all_goals
    obtain⟨BX,hXx⟩:=hXx;refine rk 7 rfl (fun K hK=>?_);rw [Aw rF];refine Ct _ _ rfl wr _ LA rfl hOx BX _ [s] rfl hXx (by have:=hLn.out;simp;omega) hBx.size ?_;intro v4 w4 hO4 hg4;have hB4:Below wr wr w4:=hBx.grown hg4 hBx.size (fun j hj=>(D7 hOx j hj).1);refine hK.out _ _ hB4 (fun hHeld=>?_);clear hK;(try simp only [ZF,pD,pE,pF,pA,pB,pC]);refine rk 11 rfl (fun K hK=>?_);rw [Aw rF];refine Ct _ _ rfl wr _ (LA++[s]) rfl hO4 wr _ LB rfl (hD.out _ hB4) (by have:=hLn.out;simp;omega) hB4.size ?_;intro v5 w5 hO5 hg5;have hB5:Below wr wr w5:=hB4.grown hg5 hB4.size (fun j hj=>(D7 hO4 j hj).1);refine hK.out _ _ hB5 (fun hHeld=>?_);clear hK;(try simp only [ZF,pD,pE,pF,pA,pB,pC]);refine tk 12 (v:=?_) rfl rF hHeld ?_ ?_;rotate_left;·(intro w hSw;go_simp;try with_reducible rfl)
    (try simp only [ZF,pD,pE,pF,pA,pB,pC]);refine D6 kR ?_ _;go_wp2;all_goals go_ret;exact⟨v5,LA++[s]++LB,rfl,hO5.low (Bg _),by have:=hLn.out;simp;omega,hB5⟩
 ·have HV:=Aa hv.strs;clear hv;obtain⟨N,hN⟩:∃ N,ls.length=N:=⟨_,rfl⟩
  rw [hN] at hl hn hv0 HV ⊢;replace hN:=Aa hN;go_enter func207,ntmps207;go_wp2_with fail;go_loopw [5] (fun i wr=>∃ k:Nat,k<=N/\i=↑k/\wr=w) (fun i _=>N - (ZG i).toNat);case atStart=>exact⟨0,Bg _,rfl,rfl⟩
  case round =>
   obtain⟨k,hk,rfl,rfl⟩:=hrel;obtain⟨LA,hLA⟩:∃ LA,Hid (ls.take k=LA):=⟨_,Aa rfl⟩
   obtain⟨LB,hLB⟩:∃ LB,Hid (ls.drop k=LB):=⟨_,Aa rfl⟩
   have hA:Hid (∀ W',Below wr wr W'->Strs wr W' (.slice (some ⟨g,0,none⟩) k cap) LA):=Aa fun W' hb=>by rw [<- hLA.out];exact (HV.out.take k (by rw [hN.out];exact hk)).below hb nR
   have hD:Hid (∀ W',Below wr wr W'->Strs wr W' (.slice (if cap=k then some ⟨g,0,none⟩ else some ⟨g,k,none⟩) (N - k) (cap - k)) LB):=Aa fun W' hb=>by
    rw [<- hLB.out];refine⟨_,cap - k,by rw [Ei,hN.out],by rw [Ei,hN.out];omega,oM,fun hn0=>?_⟩;have hkN:k<N:=by
     rcases Nc k N with h|h;·exact h
     ·exact absurd (Ja (by rw [hN.out];exact h)) hn0
    rw [Ak oM];obtain⟨_,_,ev,_,_,hne⟩:=HV.out;injection ev with ev1 ev2 ev3;obtain⟨b,off,e,hbl,hcells⟩:=hne (by intro h;have:=hN.out;simp [h] at this;omega);rw [<- ev1] at e;cases e;refine⟨g,k,rfl,hbl,fun j l hj=>?_⟩;rw [Ic] at hj;have:=hcells (k+j) l hj;rw [Bl] at this;exact (hb.cell (p:=⟨g,k+j,none⟩) hbl).trans this
   have hLn:Hid (LA.length+1+LB.length<=N+1):=Aa (by rw [<- hLA.out,<- hLB.out,Dy,Ei,hN.out];omega);have hkc:(k:Int)<=(cap:Int):=oM;have hkn:(k:Int)<=(N:Int):=oM;have z0:(0:Int)<=(k:Int):=oM;have zk:((k:Int)).toNat=k:=oM;by_cases hlt:k<N;focus
    obtain⟨_,_,ev,_,_,hne⟩:=HV.out;injection ev with ev1 ev2 ev3;rw [<- ev1] at hne;clear ev1 ev2 ev3;obtain⟨b,off,e,hbl,hcells⟩:=hne (by intro h;have:=hN.out;simp [h] at this;omega);cases e;obtain⟨l,hl'⟩:∃ l,ls[k]?=some l:=⟨_,Ad (by rw [hN.out];exact hlt)⟩
    have e1:=hcells k l hl';rw [Bl] at e1;have hk':(k:Int)<(N:Int):=oM;clear hcells hl' hne;go_wp2_with fail;all_goals first |(exact⟨⟨k+1,oM,by go_num,trivial⟩,by simp [ZG];omega⟩) |(go_ret;exact⟨_,ls,rfl,hv0.out,by rw [hN.out];omega,Ac _ _⟩) |skip
   rotate_left;focus have hk':¬ (k:Int)<(N:Int):=oM;go_wp2_with fail
   all_goals
    refine Ej (S:=fun W'=>Below wr wr W') kR hB0 (fun hHeld=>?_);refine tk 1 (v:=?_) rfl rF hHeld ?_ ?_;rotate_left;·(intro w hSw;go_simp;try with_reducible rfl)
    (try simp only [ZF,pD,pE,pF,pA,pB,pC]);refine tk 2 (v:=?_) rfl rF hHeld ?_ ?_;rotate_left;·(intro w hSw;go_simp;try with_reducible rfl)
    (try simp only [ZF,pD,pE,pF,pA,pB,pC]);refine tk 3 (v:=?_) rfl rF hHeld ?_ ?_;rotate_left;·(intro w hSw;go_simp;try with_reducible rfl)
    (try simp only [ZF,pD,pE,pF,pA,pB,pC]);refine tk 5 (v:=?_) rfl rF hHeld ?_ ?_;rotate_left;·(intro w hSw;go_simp;try with_reducible rfl)
    (try simp only [ZF,pD,pE,pF,pA,pB,pC]);refine tk 8 (v:=?_) rfl rF hHeld ?_ ?_;rotate_left;·(intro w hSw;go_simp;try with_reducible rfl)
    (try simp only [ZF,pD,pE,pF,pA,pB,pC]);refine tk 9 (v:=?_) rfl rF hHeld ?_ ?_;rotate_left;·(intro w hSw;go_simp;try with_reducible rfl)
    (try simp only [ZF,pD,pE,pF,pA,pB,pC]);refine tk 10 (v:=?_) rfl rF hHeld ?_ ?_;rotate_left;·(intro w hSw;go_simp;try with_reducible rfl)
    (try simp only [ZF,pD,pE,pF,pA,pB,pC]);refine Fj (rs:=[0,6]) kR sM ?_;refine Ci (o:=_) rfl (fun K hK=>?_) ?_;focus
     go_simp;have hB1:Below wr wr (wr.alloc (.cells #[] 9)).drew:=((Ac _ wr).alloc nR _).drew;have hO1:Ay wr (wr.alloc (.cells #[] 9)).drew (.slice (some ⟨wr,0,none⟩) 0 0) []:=(Ha wr [] sM).below (Ac _ _).drew;have hg1:wr.heap.size<(wr.alloc (.cells #[] 9)).drew.heap.size:=by show _<(wr.alloc (.cells #[] 9)).heap.size;simp
     refine hK.out _ _ hB1 (fun hHeld=>?_);clear hK;generalize (wr.alloc (.cells #[] 9)).drew=W1 at *;(try simp only [ZF,pD,pE,pF,pA,pB,pC]);refine Fj (rs:=[4,6]) kR sM ?_;refine Ci (o:=_) rfl (fun K hK=>?_) ?_;focus rw [Aw rF];refine Ct _ _ rfl wr _ [] rfl hO1 wr _ LA rfl (hA.out W1 hB1) (by have:=hLn.out;simp;omega) hB1.size ?_;intro v2 w2 hO2 hg2;rw [Dn] at hO2;have hB2:Below wr wr w2:=hB1.grown hg2 hB1.size (fun j hj=>(D7 hO1 j hj).1);refine hK.out _ _ hB2 (fun hHeld=>?_);clear hK;(try simp only [ZF,pD,pE,pF,pA,pB,pC]);refine rk 6 rfl (fun K hK=>?_);go_simp;have hBx:Below wr wr (w2.alloc (.cells #[↑s] 9)):=hB2.alloc hB2.size _;have hOx:Ay wr (w2.alloc (.cells #[↑s] 9)) v2 LA:=hO2.below ((Ac _ w2).alloc nR _);have hXx:=Th (Ai w2 (.cells #[↑s] 9));refine hK.out _ _ hBx (fun hHeld=>?_);clear hK hB1 hO1 hO2 hg2 hB2 hg1;generalize (w2.alloc (.cells #[↑s] 9))=Wx at *;(try simp only [ZF,pD,pE,pF,pA,pB,pC])
     rotate_left;focus refine Ci (o:=_) rfl (fun K hK=>?_) Ey;go_simp;have hB2:Below wr wr (W1.alloc (.cells #[↑s] 9)):=hB1.alloc hB1.size _;have hO2:Ay wr (W1.alloc (.cells #[↑s] 9)) (.slice (some ⟨wr,0,none⟩) 0 0) []:=hO1.below ((Ac _ W1).alloc nR _);have hX2:=Ai W1 (.cells #[↑s] 9);refine hK.out _ _ hB2 (fun hHeld=>?_);clear hK;(try simp only [ZF,pD,pE,pF,pA,pB,pC]);refine rk 4 rfl (fun K hK=>?_);rw [Aw rF];refine Ct _ _ rfl wr _ [] rfl hO2 wr _ LA rfl (hA.out _ hB2) (by have:=hLn.out;simp;omega) hB2.size ?_;intro v2 Wx hOx hg2;rw [Dn] at hOx;have hBx:Below wr wr Wx:=hB2.grown hg2 hB2.size (fun j hj=>(D7 hO2 j hj).1);have hXx:=Th ((hg2.block W1 sM (fun e=>by injection e with e;dsimp only at e;omega)).trans hX2);refine hK.out _ _ hBx (fun hHeld=>?_);clear hK hB1 hO1 hO2 hg2 hB2 hX2 hg1;(try simp only [ZF,pD,pE,pF,pA,pB,pC])
     rotate_left
    rotate_left 2;focus
     refine Ci (o:=_) rfl (fun K hK=>?_) Ey;go_simp;have hB1:Below wr wr (wr.alloc (.cells #[↑s] 9)).drew:=((Ac _ wr).alloc nR _).drew;have hX1:(wr.alloc (.cells #[↑s] 9)).drew.heap[wr.heap.size]?=_:=Ai wr (.cells #[↑s] 9);have hg1:wr.heap.size<(wr.alloc (.cells #[↑s] 9)).drew.heap.size:=by show _<(wr.alloc (.cells #[↑s] 9)).heap.size;simp
     refine hK.out _ _ hB1 (fun hHeld=>?_);clear hK;generalize (wr.alloc (.cells #[↑s] 9)).drew=W1 at *;(try simp only [ZF,pD,pE,pF,pA,pB,pC]);refine rk 0 rfl (fun K hK=>?_);go_simp;have hB2:Below wr wr (W1.alloc (.cells #[] 9)):=hB1.alloc hB1.size _;have hO2:Ay wr (W1.alloc (.cells #[] 9)) (.slice (some ⟨W1,0,none⟩) 0 0) []:=(Ha W1 [] sM).low hB1.size;have hX2:=(((Ac _ W1).alloc nR (.cells #[] 9)).block wr.heap.size hg1).trans hX1;refine hK.out _ _ hB2 (fun hHeld=>?_);clear hK;(try simp only [ZF,pD,pE,pF,pA,pB,pC]);refine rk 4 rfl (fun K hK=>?_);rw [Aw rF];refine Ct _ _ rfl wr _ [] rfl hO2 wr _ LA rfl (hA.out _ hB2) (by have:=hLn.out;simp;omega) hB2.size ?_;intro v2 Wx hOx hg2;rw [Dn] at hOx;have hBx:Below wr wr Wx:=hB2.grown hg2 hB2.size (fun j hj=>(D7 hO2 j hj).1);have hXx:=Th ((hg2.block wr (by simp;omega) (fun e=>by injection e with e;dsimp only at e;omega)).trans hX2);refine hK.out _ _ hBx (fun hHeld=>?_);clear hK hB1 hO2 hg2 hB2 hX2 hX1 hg1;(try simp only [ZF,pD,pE,pF,pA,pB,pC])
    all_goals
     obtain⟨BX,hXx⟩:=hXx;refine rk 7 rfl (fun K hK=>?_);rw [Aw rF];refine Ct _ _ rfl wr _ LA rfl hOx BX _ [s] rfl hXx (by have:=hLn.out;simp;omega) hBx.size ?_;intro v4 w4 hO4 hg4;have hB4:Below wr wr w4:=hBx.grown hg4 hBx.size (fun j hj=>(D7 hOx j hj).1);refine hK.out _ _ hB4 (fun hHeld=>?_);clear hK;(try simp only [ZF,pD,pE,pF,pA,pB,pC]);refine rk 11 rfl (fun K hK=>?_);rw [Aw rF];refine Ct _ _ rfl wr _ (LA++[s]) rfl hO4 wr _ LB rfl (hD.out _ hB4) (by have:=hLn.out;simp;omega) hB4.size ?_;intro v5 w5 hO5 hg5;have hB5:Below wr wr w5:=hB4.grown hg5 hB4.size (fun j hj=>(D7 hO4 j hj).1);refine hK.out _ _ hB5 (fun hHeld=>?_);clear hK;(try simp only [ZF,pD,pE,pF,pA,pB,pC]);refine tk 12 (v:=?_) rfl rF hHeld ?_ ?_;rotate_left;·(intro w hSw;go_simp;try with_reducible rfl)
     (try simp only [ZF,pD,pE,pF,pA,pB,pC]);refine D6 kR ?_ _;go_wp2;all_goals go_ret;exact⟨v5,LA++[s]++LB,rfl,hO5.low (Bg _),by have:=hLn.out;simp;omega,hB5⟩
end
section
open Go.Lib Go.Proofs.Tryz Go.RowKit Go.Shelf Go.Sort CH
attribute [local irreducible] wpQuiet
theorem E4a (h:aS) (vj:ZC) (w:ZB) (hv:Strs w w vj h.joint) (hen:h.stop = -1\/h.start<h.stop) : ZE prog 208 #[.agg (A4 h vj).toArray,↑h.start] w (Ret w (.bool true)):=by
 have hB0:=Aa fun o=>(Ac _ w).alloc nR o;obtain⟨_,_,rfl,_,_⟩:=hv.form;clear hv;generalize h.joint.length=n1 at *;dsimp only [A4,ay,aJ] at *;rcases hen with e|e;·rw [e];clear e;go_enter func208,ntmps208;go_wp2;go_ret;exact⟨rfl,hB0.out _⟩
 ·have q1:ZH (h.start<h.stop)=true:=Az e;by_cases e1:h.stop = -1;·rw [e1];clear e e1 q1;go_enter func208,ntmps208;go_wp2;go_ret;exact⟨rfl,hB0.out _⟩
  ·have q2:(h.stop==-1)=false:=by simpa using e1
   clear e1;go_enter func208,ntmps208;go_wp2;go_ret;exact⟨rfl,hB0.out _⟩
theorem Ex2 (h:aS) (vj:ZC) (g:Nat) (w:ZB) (hr:w.rangeAt g 0 (A4 h vj)) (hg:g<w.heap.size) (hv:Strs w w vj h.joint) (hen:h.stop = -1\/h.start<h.stop) (hc:0<=h.capital/\h.capital<=100) (hvo:0<=h.bM/\h.bM<=100) : ZE prog 141 #[.slice (some ⟨g,0,none⟩) 1 1] w (Ret w (.bool true)):=by
 have R:=Aa fun (W:ZB) (hb:Below w w W)=>E4a h vj W ((hv.below hb nR).mono hb.size) hen;have HR:=Aa fun (W:ZB) (hb:Below w w W) (j:Nat) (u:ZC) (hj:(A4 h vj)[j]?=some u)=>(show W.cell? ⟨g,j,none⟩=some u from by have:=hr j u hj;rw [Bl] at this;exact (hb.cell (p:=⟨g,j,none⟩) hg).trans this)
 obtain⟨_,_,rfl,_,_⟩:=hv.form;clear hv hr;generalize h.joint.length=n1 at *;dsimp only [A4,ay,aJ] at *;go_enter func141,ntmps141;go_wp2_with fail;go_loopw [3] (fun iv wr=>(iv=.int .i64 0\/iv=.int .i64 1)/\Hid (Below w w wr)) (fun iv _=>1 - (ZG iv).toNat);case atStart=>exact⟨.inl rfl,Aa (Ac _ _)⟩
 case round =>
  obtain⟨rfl|rfl,hB⟩:=hrel
  ·go_wp2_with fail;go_loopw [4,5,6] (fun cv vv kv wr=>((kv=.int .i64 0/\cv=.int .i64 0/\vv=.int .i64 0)\/(kv=.int .i64 1/\cv=↑h.capital/\vv=↑h.bM))/\Hid (Below w w wr)) (fun _ _ kv _=>1 - (ZG kv).toNat);case atStart=>exact⟨.inl ⟨rfl,rfl,rfl⟩,hB⟩
   case round =>
    obtain⟨⟨rfl,rfl,rfl⟩|⟨rfl,rfl,rfl⟩,hB⟩:=hrel
    ·have x:=HR.out _ hB.out;have x0:=x 0 _ rfl;have x1:=x 1 _ rfl;have x2:=x 2 _ rfl;have x3:=x 3 _ rfl;have x4:=x 4 _ rfl;have x5:=x 5 _ rfl;have x6:=x 6 _ rfl;have x7:=x 7 _ rfl;have x8:=x 8 _ rfl;have x9:=x 9 _ rfl;have y0:=@Ae _ _ _ x0;have y1:=@Ae _ _ _ x1;have y2:=@Ae _ _ _ x2;have y3:=@Ae _ _ _ x3;have y4:=@Ae _ _ _ x4;have y5:=@Ae _ _ _ x5;have y6:=@Ae _ _ _ x6;have y7:=@Ae _ _ _ x7;have y8:=@Ae _ _ _ x8;have y9:=@Ae _ _ _ x9;have RR:=Aa fun (W':ZB) (hb':Below _ _ W')=>R.out W' (hB.out.trans (hb'.mono hB.out.size));have eqc:((⟨h.company.toArray⟩:ByteArray)==⟨h.company.toArray⟩)=true:=by rw [Cy];simp
     clear x;go_wp2_with fail;refine Bd kR kR ?_;repeat (quiet_step ((with_reducible exact Bj (RR.out _ (Dv _ _ _)))))
     refine C9 ?_;intro wq hbq;replace hbq:=At hbq;clear y0 y1 y2 y3 y4 y5 y6 y7 y8 y9 x0 x1 x2 x3 x4 x5 x6 x7 x8 x9 RR;have hB2:=Aa (hB.out.trans (hbq.mono hB.out.size));have x6:=HR.out _ hB2.out 6 _ rfl;have x7:=HR.out _ hB2.out 7 _ rfl;go_wp2;go_roundw;case rel=>exact⟨.inr ⟨by go_num,by go_num,by go_num⟩,hB2⟩
     case measure=>simp [ZG]
    ·have q1:ZH (100<h.capital)=false:=Aq oM;have q2:ZH (100<h.bM)=false:=Aq oM;go_wp2;go_roundw;case rel=>exact⟨.inr (by go_num),hB⟩
     case measure=>simp [ZG]
  ·go_wp2;go_ret;exact⟨rfl,hB.out⟩
end
section
open Go.Lib Go.Proofs.Tryz Go.RowKit Go.Shelf Go.Sort CH
attribute [local irreducible] wpQuiet
theorem Ka {w:ZB} {n:Nat} {e:Ending} {w':ZB} (h:G2b w n e w'):∃ v ls a c,e=.returned v/\v=.slice a ls.length c/\Ay 0 w' v ls/\ls.length<=n/\Below w w w':=by obtain⟨v,ls,rfl,hO,hl,hb⟩:=h;obtain⟨a,c,hv,_⟩:=hO.form;exact⟨v,ls,a,c,rfl,hv,hO,hl,hb⟩
theorem Xe (h:aS) (vj:ZC) (g:Nat) (w:ZB) (hr:w.rangeAt g 0 (A4 h vj)) (hg:g<w.heap.size) (hv:Strs w w vj h.joint) (hj4:h.joint.length<=4) : ZE prog 140 #[.slice (some ⟨g,0,none⟩) 1 1] w (G2b w 8):=by
 have P:=Aa fun (v:ZC) (ls:List (List UInt8)) (s:List UInt8) (W:ZB) (hO:Ay 0 W v ls) (hl:ls.length<=7)=>E6a v ls s W hO oM;have HR:=Aa fun (W:ZB) (hb:Below w w W) (j:Nat) (u:ZC) (hj:(A4 h vj)[j]?=some u)=>(show W.cell? ⟨g,j,none⟩=some u from by have:=hr j u hj;rw [Bl] at this;exact (hb.cell (p:=⟨g,j,none⟩) hg).trans this)
 obtain⟨aj,cj,rfl,hl,hcap,hne⟩:=hv;replace hne:=Aa hne;obtain⟨N,hN⟩:∃ N,h.joint.length=N:=⟨_,rfl⟩
 rw [hN] at hl hj4;clear hr;dsimp only [A4,ay,aJ] at *;rw [hN] at HR;replace hN:=Aa hN;go_enter func140,ntmps140;go_wp2_with fail;go_loopw [3,4] (fun ov iv wr=>((iv=.int .i64 0/\ov=.slice none 0 0)\/(iv=.int .i64 1/\∃ a n c,ov=.slice a n c/\Hid (∃ ls,Ay 0 wr ov ls/\ls.length<=8)))/\Hid (Below w w wr)) (fun _ iv _=>1 - (ZG iv).toNat);case atStart=>exact⟨.inl ⟨rfl,rfl⟩,Aa (Ac _ _)⟩
 case round =>
  obtain⟨⟨rfl,rfl⟩|⟨rfl,a,n,c,rfl,hO⟩,hB⟩:=hrel
  ·have x:=HR.out _ hB.out;have x0:=x 0 _ rfl;have x1:=x 1 _ rfl;have x2:=x 2 _ rfl;have x3:=x 3 _ rfl;have x4:=x 4 _ rfl;have x5:=x 5 _ rfl;have x6:=x 6 _ rfl;have x7:=x 7 _ rfl;have x8:=x 8 _ rfl;have x9:=x 9 _ rfl;clear x;go_wp2_with fail;generalize hWd:wr.alloc _=W at *;have hBW:Below w w W:=by rw [<- hWd];exact hB.out.alloc hB.out.size _
   have K:=Aa (Cp (C:=_) hWd);clear hWd x0 x1 x2 x3 x4 x5 x6 x7 x8 x9 hB;have hD:Below W W W.drew:=(Ac _ W).drew;refine Ej (S:=fun W'=>Below W W W') kR hD (fun hHeld=>?_);refine tk 0 (v:=?_) rfl rF hHeld ?_ ?_;rotate_left;·(intro w hSw;go_simp;try with_reducible rfl)
   (try simp only [ZF,pD,pE,pF,pA,pB,pC]);refine tk 1 (v:=?_) rfl rF hHeld ?_ ?_;rotate_left;·(intro w hSw;go_simp;try with_reducible rfl)
   (try simp only [ZF,pD,pE,pF,pA,pB,pC]);refine tk 2 (v:=?_) rfl rF hHeld ?_ ?_;rotate_left;·(intro w hSw;have q:=K.out w hSw 1 _ rfl;go_simp;try with_reducible rfl)
   (try simp only [ZF,pD,pE,pF,pA,pB,pC]);refine tk 4 (v:=?_) rfl rF hHeld ?_ ?_;rotate_left;·(intro w hSw;go_simp;try with_reducible rfl)
   (try simp only [ZF,pD,pE,pF,pA,pB,pC]);refine tk 5 (v:=?_) rfl rF hHeld ?_ ?_;rotate_left;·(intro w hSw;have q:=K.out w hSw 2 _ rfl;go_simp;try with_reducible rfl)
   (try simp only [ZF,pD,pE,pF,pA,pB,pC]);refine rk 3 rfl (fun Kx hK=>?_);go_simp;refine (P.out _ [] _ _ (Ay.nil _ _) sM).mono ?_;rintro e w2 hP;obtain⟨v2,l2,a2,c2,rfl,rfl,hO2,hl2,hb2⟩:=Ka hP;have hE2:Below W W w2:=hD.trans (hb2.mono hD.size);go_wp2_with fail;refine hK.out _ _ hE2 (fun hHeld=>?_);clear hK hP;(try simp only [ZF,pD,pE,pF,pA,pB,pC]);refine rk 6 rfl (fun Kx hK=>?_);go_simp;refine (P.out _ l2 _ _ hO2 (by simp at hl2;omega)).mono ?_;rintro e w3 hP;obtain⟨v3,l3,a3,c3,rfl,rfl,hO3,hl3,hb3⟩:=Ka hP;have hE3:Below W W w3:=hE2.trans (hb3.mono hE2.size);have hl3:l3.length<=2:=by simp at hl2;omega
   go_wp2_with fail;refine hK.out _ _ hE3 (fun hHeld=>?_);clear hK hP;(try simp only [ZF,pD,pE,pF,pA,pB,pC]);refine tk 7 (v:=?_) rfl rF hHeld ?_ ?_;rotate_left;·(intro w hSw;go_simp;try with_reducible rfl)
   (try simp only [ZF,pD,pE,pF,pA,pB,pC]);refine D6 kR ?_ _;replace hE3:=Aa hE3;clear hHeld hO2 hb2 hb3 hE2 hD;go_wp2_with fail;go_loopw [3,6] (fun ov kv wr=>∃ (k:Nat) (a:Option Addr) (n c:Nat),k<=N/\kv=↑k/\ov=.slice a n c/\Hid (∃ ls,Ay 0 wr ov ls/\ls.length<=2+k/\ls.length=n)/\Hid (Below W W wr)) (fun _ kv _=>N - (ZG kv).toNat);case atStart=>exact⟨0,_,_,_,Bg _,rfl,rfl,Aa ⟨l3,hO3,oM,rfl⟩,hE3⟩
   case round =>
    obtain⟨k,a,n,c,hk,rfl,rfl,⟨lo,hO,hlo,hln⟩,hB⟩:=hrel;have k5:=K.out _ hB.out 5 _ rfl;by_cases hlt:k<N
    ·obtain⟨b,off,rfl,hbl,hcells⟩:=hne.out (by intro e;have:=hN.out;rw [e] at this;simp at this;omega);obtain⟨x,hx⟩:∃ x,h.joint[k]?=some x:=⟨_,Ad (by rw [hN.out];exact hlt)⟩
     have hBw:=hBW.trans (hB.out.mono hBW.size);have e1:=(hBw.cell (p:=⟨b,off+k,none⟩) hbl).trans (hcells k x hx);have z0:(0:Int)<=(k:Int):=oM;have zk:((k:Int)).toNat=k:=oM;have hk':(k:Int)<(N:Int):=oM;have PP:=Aa (P.out _ lo x _ hO oM);clear hcells hx hBw hO;go_wp2_with fail;refine PP.out.mono ?_;rintro e w4 hP;obtain⟨v4,l4,a4,c4,rfl,rfl,hO4,hl4,hb4⟩:=Ka hP;have hB4:=Aa (hB.out.trans (hb4.mono hB.out.size));have hO4:=Aa (⟨l4,hO4,oM,rfl⟩:∃ ls,Ay 0 w4 (.slice a4 l4.length c4) ls/\ls.length<=2+(k+1)/\ls.length=l4.length);generalize l4.length=n4 at *;clear PP hP hb4 e1 k5;go_wp2;go_roundw;case rel=>exact⟨k+1,_,_,_,oM,by go_num,rfl,hO4,hB4⟩
     case measure=>simp [ZG];omega
    ·have hk':¬ (k:Int)<(N:Int):=oM;have k3:=K.out _ hB.out 3 _ rfl;have k4:=K.out _ hB.out 4 _ rfl;have JQ:lo.length<=6:=oM;subst hln;replace hE3:=Aa (hBW.trans (hB.out.mono hBW.size));rcases Nat.eq_zero_or_pos h.ah.length with n0|n0 <;> rcases Nat.eq_zero_or_pos h.aA.length with p0|p0
     ·have e3:h.ah=[]:=Df.1 n0;rw [e3] at k3;have e4:h.aA=[]:=Df.1 p0;rw [e4] at k4;go_wp2;go_roundw;case rel=>exact⟨.inr ⟨by go_num,_,_,_,rfl,Aa ⟨_,hO,oM⟩⟩,Aa hE3.out⟩
      case measure=>simp [ZG]
     ·have e3:h.ah=[]:=Df.1 n0;rw [e3] at k3;have y1:=Dm p0;have y2:=C6 p0;go_wp2_with fail;refine (P.out _ lo _ _ hO oM).mono ?_;rintro e w5 hP;obtain⟨v5,l5,a5,c5,rfl,rfl,hO5,hl5,hb5⟩:=Ka hP;have hb5:=hB.out.trans (hb5.mono hB.out.size);have k4:=K.out _ hb5 4 _ rfl;clear hP;go_wp2;go_roundw;case rel=>exact⟨.inr ⟨by go_num,_,_,_,rfl,Aa ⟨_,hO5,oM⟩⟩,Aa (hBW.trans (hb5.mono hBW.size))⟩
      case measure=>simp [ZG]
     ·have x1:=Dm n0;have x2:=C6 n0;go_wp2_with fail;refine (P.out _ lo _ _ hO oM).mono ?_;rintro e w5 hP;obtain⟨v5,l5,a5,c5,rfl,rfl,hO5,hl5,hb5⟩:=Ka hP;have hb5:=hB.out.trans (hb5.mono hB.out.size);have k4:=K.out _ hb5 4 _ rfl;clear hP;have e4:h.aA=[]:=Df.1 p0;rw [e4] at k4;go_wp2;go_roundw;case rel=>exact⟨.inr ⟨by go_num,_,_,_,rfl,Aa ⟨_,hO5,oM⟩⟩,Aa (hBW.trans (hb5.mono hBW.size))⟩
      case measure=>simp [ZG]
     ·have x1:=Dm n0;have x2:=C6 n0;have y1:=Dm p0;have y2:=C6 p0;go_wp2_with fail;refine (P.out _ lo _ _ hO oM).mono ?_;rintro e w5 hP;obtain⟨v5,l5,a5,c5,rfl,rfl,hO5,hl5,hb5⟩:=Ka hP;have hb5:=hB.out.trans (hb5.mono hB.out.size);have k4:=K.out _ hb5 4 _ rfl;clear hP;go_wp2_with fail;refine (P.out _ l5 _ _ hO5 oM).mono ?_;rintro e w6 hP;obtain⟨v6,l6,a6,c6,rfl,rfl,hO6,hl6,hb6⟩:=Ka hP;have hb6:=hb5.trans (hb6.mono hb5.size);have k4:=K.out _ hb6 4 _ rfl;clear hP;go_wp2;go_roundw;case rel=>exact⟨.inr ⟨by go_num,_,_,_,rfl,Aa ⟨_,hO6,oM⟩⟩,Aa (hBW.trans (hb6.mono hBW.size))⟩
      case measure=>simp [ZG]
  ·obtain⟨ls,hO,hl⟩:=hO.out;go_wp2;go_ret;exact⟨_,ls,rfl,hO,hl,hB.out⟩
end
section
open Go.Lib Go.Proofs.Tryz Go.RowKit Go.Shelf Go.Sort CH
attribute [local irreducible] wpQuiet
theorem S9 (h:aS) (vj:ZC) (g:Nat) (w:ZB) (hr:w.rangeAt g 0 (A4 h vj)) (hg:g<w.heap.size) (hv:Strs w w vj h.joint) (hh:bK h=true) : ZE prog 78 #[.slice (some ⟨g,0,none⟩) 1 1] w (Ret w (.bool true)):=by
 have H:=Rm hh;have hen:h.stop = -1\/h.start<h.stop:=H.en.imp id fun e=>e.2.2;have HRg:=fun (W:ZB) (hb:Below w w W)=>(show W.rangeAt g 0 (A4 h vj) from fun j u hj=>(hb.cell (p:=⟨g,0+j,none⟩) hg).trans (hr j u hj))
 have HV:=fun (W:ZB) (hb:Below w w W)=>(hv.below hb nR).mono hb.size;have PR:=Aa fun (W:ZB) (hb:Below w w W)=>Qs h vj W (HV W hb) hh;have PA:=Aa fun (W:ZB) (hb:Below w w W)=>Xe h vj g W (HRg W hb) (Ah hg hb.size) (HV W hb) H.j4;have SU:=Aa fun (W:ZB) (hb:Below w w W)=>Ex2 h vj g W (HRg W hb) (Ah hg hb.size) (HV W hb) hen H.cap H.vot;have FI:=Aa fun (W:ZB)=>Fam (some ⟨g,0,none⟩) 1 h.id W;have HR:=Aa fun (W:ZB) (hb:Below w w W) (j:Nat) (u:ZC) (hj:(A4 h vj)[j]?=some u)=>(show W.cell? ⟨g,j,none⟩=some u from by have:=HRg W hb j u hj;rw [Bl] at this;exact this)
 obtain⟨_,_,rfl,_,_⟩:=hv.form;clear hv hr H hen HRg HV hh;generalize h.joint.length=n1 at *;dsimp only [A4,ay,aJ] at *;go_enter func78,ntmps78;go_wp2_with fail;go_loopw [3] (fun iv wr=>(iv=.int .i64 0\/iv=.int .i64 1)/\Hid (Below w w wr)) (fun iv _=>1 - (ZG iv).toNat);case atStart=>exact⟨.inl rfl,Aa (Ac _ _)⟩
 case round =>
  obtain⟨rfl|rfl,hB⟩:=hrel
  ·have x:=HR.out _ hB.out;have x0:=x 0 _ rfl;have x1:=x 1 _ rfl;have x2:=x 2 _ rfl;have x3:=x 3 _ rfl;have x4:=x 4 _ rfl;have x5:=x 5 _ rfl;have x6:=x 6 _ rfl;have x7:=x 7 _ rfl;have x8:=x 8 _ rfl;have x9:=x 9 _ rfl;have y0:=@Ae _ _ _ x0;have y1:=@Ae _ _ _ x1;have y2:=@Ae _ _ _ x2;have y3:=@Ae _ _ _ x3;have y4:=@Ae _ _ _ x4;have y5:=@Ae _ _ _ x5;have y6:=@Ae _ _ _ x6;have y7:=@Ae _ _ _ x7;have y8:=@Ae _ _ _ x8;have y9:=@Ae _ _ _ x9;have RR:=Aa fun (W':ZB) (hb':Below _ _ W')=>PR.out W' (hB.out.trans (hb'.mono hB.out.size));clear x;go_wp2_with fail;refine Bd kR kR ?_;repeat (quiet_step (first|(with_reducible exact Bj (RR.out _ (Dv _ _ _)))|(with_reducible exact Bj (FI.out _))))
   refine C9 ?_;intro wq hbq;replace hbq:=At hbq;clear y0 y1 y2 y3 y4 y5 y6 y7 y8 y9 x0 x1 x2 x3 x4 x5 x6 x7 x8 x9 RR;have hB2:=Aa (hB.out.trans (hbq.mono hB.out.size));go_wp2;go_roundw;case rel=>exact⟨.inr (by go_num),hB2⟩
   case measure=>simp [ZG]
  ·go_wp2_with fail;refine (PA.out _ hB.out).mono ?_;rintro e w2 hP;obtain⟨v2,l2,a2,c2,rfl,rfl,hO2,hl2,hb2⟩:=Ka hP;have hB2:=hB.out.trans (hb2.mono hB.out.size);have q:ZH ((l2.length:Int)<=60)=true:=Az oM;go_wp2_with fail;refine (SU.out _ hB2).mono ?_;rintro e w3 ⟨rfl,hb3⟩;go_wp2;go_ret;exact⟨rfl,hB2.trans (hb3.mono hB2.size)⟩
end
section
open Go.Lib Go.Proofs.Tryz Go.RowKit Go.Shelf Go.Sort CH
attribute [local irreducible] wpQuiet
theorem H5 (w:ZB) (T:ZJ):∀ (cs pre z post:List ZC),z.length=cs.length->(w.alloc (.cells (pre++(z++post)).toArray T)).setCells w.heap.size pre.length cs=w.alloc (.cells (pre++(cs++post)).toArray T)
 |[],pre,z,post,h=>by
  have:z=[]:=Df.1 (by simpa using h)
  subst this
  rfl
 |v::cs,pre,z,post,h=>by
  cases z with
  |nil=>simp at h
  |cons u z =>
   rw [World.setCells,Gz _ _ _ _ _ rfl]
   have e:((pre++(u::z++post)).toArray.setIfInBounds pre.length v)=((pre++[v])++(z++post)).toArray:=sM
   rw [e]
   have:=H5 w T cs (pre++[v]) z post (by simpa using h)
   rw [Aj,Dz] at this
   rw [this]
   simp
theorem Cz {P:Program} {ops:Array Oper} {rest:List Oper} {op:Oper} {a:Act} {w:ZB} {Q:Exit->Act->ZB->Prop} {z:Array ZC} {T:ZJ} (g:Nat) (hg:w.heap.size=g) (hgd:op.guard=none) (ty:ZJ) (x y:Operand) (ho:op.op=.store ty x y) (cs:List ZC) (hx:a.eval x=.pointer (some ⟨g,0,none⟩)) (hy:a.eval y=.agg cs.toArray) (hz:z.size=cs.length) (hi:(P.info? ty).map (·.size)=some cs.length) (h1:∀ v∈cs,v.oneCell'=true) (h:wpList P ops Q rest (a.put op.dst undef) (w.alloc (.cells cs.toArray T))):wpList P ops Q (op::rest) a (w.alloc (.cells z T)):=by subst hg;exact Ca hgd ty x y ho cs hx hy hz hi h1 h
theorem Ev {P:Program} {ops:Array Oper} {rest:List Oper} {op:Oper} {a:Act} {w:ZB} {Q:Exit->Act->ZB->Prop} (hgd:op.guard=none) (ty:ZJ) (x y:Operand) (ho:op.op=.store ty x y) (b o:Nat) (v:ZC) (W':ZB) (hx:a.eval x=.pointer (some ⟨b,o,none⟩)) (hy:a.eval y=v) (h1:v.oneCell'=true) (ht:w.there b o 1) (hi:(P.info? ty).map (·.size)=some 1) (hW:w.setCell ⟨b,o,none⟩ v=W') (h:wpList P ops Q rest (a.put op.dst undef) W'):wpList P ops Q (op::rest) a w:=by
 subst hW hy;have hc:(a.eval y).cells=#[a.eval y]:=by generalize a.eval y=v at *;cases v <;> first|rfl|cases h1
 have hs:=run_storeCells_cells (P:=P) b o [a.eval y] 0 w (fun j hj=>by simp at hj;subst hj;simpa using (ht 0 oM).1) (fun j hj=>by simp at hj;subst hj;simpa using (ht 0 oM).2) (fun v hv=>by simp at hv;subst hv;exact h1);refine wpList_plain hgd fun _ hK=>?_;unfold Oper.wp execOp;cases hq:P.info? ty with
 |none=>simp [hq] at hi
 |some i =>
  have hsz:i.size=1:=by simpa [hq] using hi
  simp only [Hl,World.setCells] at hs;have hst:(storeVar ty ⟨b,o,none⟩ (a.eval y)).run P w=.ok () (w.setCell ⟨b,o,none⟩ (a.eval y)):=by simp [storeVar,sizeOf,typeInfo,hq,hc,hsz,hs]
  simp only [ho,hx,Instr.storeAt,Instr.sureAddr,Jb,Nb,H9,hst];exact hK _ _ h
theorem Tr (B:Nat) (w:ZB):Er B w (.slice none 0 0) []:=⟨none,0,rfl,Bv _,oM,fun h=>absurd rfl h⟩
theorem It (B:Nat) (w:ZB):Strs B w (.slice none 0 0) []:=⟨none,0,rfl,Bv _,oM,fun h=>absurd rfl h⟩
theorem O9 (B:Nat) (w:ZB):A7 B w zM.aC (.slice none 0 0):=by unfold zM A7;exact⟨none,0,rfl,Bv _,oM,fun h=>absurd rfl h⟩
def aF:fF:=⟨.slice none 0 0,.slice none 0 0,.slice none 0 0,.slice none 0 0,.slice none 0 0⟩
theorem Mm (B:Nat) (w:ZB) (k:Int) (id:List UInt8) (n:Int):cu B w ⟨k,zC,zM,zL,zH,id,n⟩ aF:=⟨Tr B w,O9 B w,It B w,It B w,It B w⟩
theorem Zu (a:CH.Act) (s:fF) (w:ZB) (h:cu w w a s) (hu:CH.unused a=true) (hk:a.kind=1) : ZE prog 74 #[.agg (Al a s).toArray] w (Ret w (.bool true)):=by
 obtain⟨u1,u2,u4,u6,u7⟩:=fO hu;have e2:=u2 oM;have e4:=u4 oM;have e6:=u6 oM;obtain⟨e7,e8⟩:=u7 oM;obtain⟨kd,ch,me,li,ho,id,n⟩:=a;dsimp only at *;subst hk e7 e8 e2 e4 e6;clear hu u1 u2 u4 u6 u7;have S:=Aa fun (W:ZB) (hb:Below w w W)=>Hj ⟨1,ch,zM,zL,zH,[],0⟩ s ⟨s.vn,.slice none 0 0,.slice none 0 0,.slice none 0 0,.slice none 0 0⟩ W ((h.below hb nR).mono hb.size) ⟨((h.below hb nR).mono hb.size).names,O9 _ _,It _ _,It _ _,It _ _⟩;have i1:(prog.info? 60).map (·.size)=some (Bb ch s.vn).length:=kR;have hone:∀ v∈Bb ch s.vn,v.oneCell'=true:=fun v hv=>Cq h v (by unfold Al;exact List.mem_cons_of_mem _ (List.mem_append_left _ hv));have P:=Aa fun (W:ZB) (b:Nat) (hr:W.rangeAt b 0 (Al ⟨1,ch,zM,zL,zH,[],0⟩ s))=>Ek hr;have iA:(prog.info? 69).map (·.size)=some (Al ⟨1,ch,zM,zL,zH,[],0⟩ s).length:=kR;have iB:(prog.info? 69).map (·.size)=some (Al ⟨1,ch,zM,zL,zH,[],0⟩ ⟨s.vn,.slice none 0 0,.slice none 0 0,.slice none 0 0,.slice none 0 0⟩).length:=kR;have iZ:(prog.info? 69).map (·.size)=some (Al ⟨1,zC,zM,zL,zH,[],0⟩ aF).length:=kR;have hbu:prog.built 69 [(0,.int .i64 1)]=some (Al ⟨1,zC,zM,zL,zH,[],0⟩ aF).toArray:=kR;have h1Z:∀ v∈Al ⟨1,zC,zM,zL,zH,[],0⟩ aF,v.oneCell'=true:=Cq (Mm w w 1 [] 0);have hsp:=Aa fun (W:ZB)=>H5 W 69 (Bb ch s.vn) ((Al ⟨1,zC,zM,zL,zH,[],0⟩ aF).take 1) (((Al ⟨1,zC,zM,zL,zH,[],0⟩ aF).drop 1).take 5) ((Al ⟨1,zC,zM,zL,zH,[],0⟩ aF).drop 6) rfl;have gQ:=Aa fun (W:ZB)=>(show (W.alloc (.cells (Al ⟨1,zC,zM,zL,zH,[],0⟩ aF).toArray 69)).there W.heap.size 1 (Bb ch s.vn).toArray.size from fun j hj=>by have hj2:j<5:=hj;refine⟨?_,Be (Ai W _) _⟩;rw [Ab (Ai W _),Fz (by show 1+j<37;omega)];rfl)
 have hs1:(Al ⟨1,zC,zM,zL,zH,[],0⟩ aF).take 1++(((Al ⟨1,zC,zM,zL,zH,[],0⟩ aF).drop 1).take 5++(Al ⟨1,zC,zM,zL,zH,[],0⟩ aF).drop 6)=Al ⟨1,zC,zM,zL,zH,[],0⟩ aF:=rfl;have hs2:(Al ⟨1,zC,zM,zL,zH,[],0⟩ aF).take 1++(Bb ch s.vn++(Al ⟨1,zC,zM,zL,zH,[],0⟩ aF).drop 6)=Al ⟨1,ch,zM,zL,zH,[],0⟩ ⟨s.vn,.slice none 0 0,.slice none 0 0,.slice none 0 0,.slice none 0 0⟩:=rfl;have hs3:((Al ⟨1,zC,zM,zL,zH,[],0⟩ aF).take 1).length=1:=rfl;rw [hs1,hs2,hs3] at hsp;clear hs1 hs2 hs3 h;have hlz:(Al ⟨1,zC,zM,zL,zH,[],0⟩ aF).length=37:=rfl;generalize Bb ch s.vn=C1 at *;generalize hZ:Al ⟨1,zC,zM,zL,zH,[],0⟩ aF=Z at *;dsimp only [Al,Bb,A5,Bu,A4,ay,aJ,zC,zM,zL,zH,aF,CH.Formula.op,CH.Formula.name,CH.Formula.cmp,CH.Formula.n,List.cons_append,List.nil_append] at hZ;have hlit:=congrArg List.toArray hZ;clear hZ;generalize Al ⟨1,ch,zM,zL,zH,[],0⟩ s=C at *;generalize Al ⟨1,ch,zM,zL,zH,[],0⟩ ⟨s.vn,.slice none 0 0,.slice none 0 0,.slice none 0 0,.slice none 0 0⟩=C' at *;have hr0:=Aa (B6 w C 69);obtain⟨k0,q1,q6,q18,q25,_,_⟩:=P.out _ _ hr0.out;have r1:=Aa (Ds q1 (.cells Z.toArray 69));have k0':=(((Ac _ _).alloc nR (.cells Z.toArray 69)).cell (p:=⟨w,0,none⟩) sM).trans k0;clear q1 q6 q18 q25;have hlz:=Aa hlz;have hra:=Aa (Ds hr0.out (.cells C'.toArray 69));have hrb:Hid (((w.alloc (.cells C.toArray 69)).alloc (.cells C'.toArray 69)).rangeAt (w.heap.size+1) 0 C'):=Aa (by have:=B6 (w.alloc (.cells C.toArray 69)) C' 69;rwa [Cc] at this);have hth:=gQ.out (w.alloc (.cells C.toArray 69));rw [Cc] at hth;have jM:=hsp.out (w.alloc (.cells C.toArray 69));rw [Cc] at jM;replace jM:=Aa jM;replace hth:=Aa hth;have hB2:=Aa (((Ac _ w).alloc nR (.cells C.toArray 69)).alloc sM (.cells C'.toArray 69));clear hsp gQ P;go_enter func74,ntmps74;go_wp2_with (first|refine wpList_buildTo rfl 69 _ rfl _ rfl Z.toArray hbu ?_|refine Cz (w+1) sM rfl 69 _ _ rfl Z rfl rfl (by rw [hlz.out];rfl) iZ h1Z ?_|refine Bh rfl 60 _ rfl w (0+1) rfl C1 _ r1.out underlying60 rfl i1 ?_|refine Gn rfl 60 _ _ rfl (w+1) 1 C1.toArray rfl rfl hth.out (by simpa using i1) (Em hone) ?_;rw [jM.out]|refine Bh rfl 69 _ rfl w 0 rfl C _ hra.out underlying69 rfl iA ?_|refine Bh rfl 69 _ rfl (w+1) 0 rfl C' _ hrb.out underlying69 rfl iB ?_)
 refine (S.out _ hB2.out).mono ?_;rintro e w1 ⟨rfl,hb1⟩;go_wp2;go_ret;exact⟨rfl,hB2.out.trans (hb1.mono hB2.out.size)⟩
theorem Zt (a:CH.Act) (s:fF) (w:ZB) (h:cu w w a s) (hu:CH.unused a=true) (hk:a.kind=2) : ZE prog 74 #[.agg (Al a s).toArray] w (Ret w (.bool true)):=by
 obtain⟨u1,u2,u4,u6,u7⟩:=fO hu;have e1:=u1 oM;have e4:=u4 oM;have e6:=u6 oM;obtain⟨e7,e8⟩:=u7 oM;obtain⟨kd,ch,me,li,ho,id,n⟩:=a;dsimp only at *;subst hk e7 e8 e1 e4 e6;clear hu u1 u2 u4 u6 u7;have S:=Aa fun (W:ZB) (hb:Below w w W)=>Hj ⟨2,zC,me,zL,zH,[],0⟩ s ⟨.slice none 0 0,s.vk,.slice none 0 0,.slice none 0 0,.slice none 0 0⟩ W ((h.below hb nR).mono hb.size) ⟨Tr _ _,((h.below hb nR).mono hb.size).kids,It _ _,It _ _,It _ _⟩;have i1:(prog.info? 65).map (·.size)=some (A5 me s.vk).length:=kR;have hone:∀ v∈A5 me s.vk,v.oneCell'=true:=fun v hv=>Cq h v (by unfold Al;exact List.mem_cons_of_mem _ (List.mem_append_right _ (List.mem_append_left _ hv)));have P:=Aa fun (W:ZB) (b:Nat) (hr:W.rangeAt b 0 (Al ⟨2,zC,me,zL,zH,[],0⟩ s))=>Ek hr;have iA:(prog.info? 69).map (·.size)=some (Al ⟨2,zC,me,zL,zH,[],0⟩ s).length:=kR;have iB:(prog.info? 69).map (·.size)=some (Al ⟨2,zC,me,zL,zH,[],0⟩ ⟨.slice none 0 0,s.vk,.slice none 0 0,.slice none 0 0,.slice none 0 0⟩).length:=kR;have iZ:(prog.info? 69).map (·.size)=some (Al ⟨2,zC,zM,zL,zH,[],0⟩ aF).length:=kR;have hbu:prog.built 69 [(0,.int .i64 2)]=some (Al ⟨2,zC,zM,zL,zH,[],0⟩ aF).toArray:=kR;have h1Z:∀ v∈Al ⟨2,zC,zM,zL,zH,[],0⟩ aF,v.oneCell'=true:=Cq (Mm w w 2 [] 0);have hsp:=Aa fun (W:ZB)=>H5 W 69 (A5 me s.vk) ((Al ⟨2,zC,zM,zL,zH,[],0⟩ aF).take 6) (((Al ⟨2,zC,zM,zL,zH,[],0⟩ aF).drop 6).take 12) ((Al ⟨2,zC,zM,zL,zH,[],0⟩ aF).drop 18) rfl;have gQ:=Aa fun (W:ZB)=>(show (W.alloc (.cells (Al ⟨2,zC,zM,zL,zH,[],0⟩ aF).toArray 69)).there W.heap.size 6 (A5 me s.vk).toArray.size from fun j hj=>by have hj2:j<12:=hj;refine⟨?_,Be (Ai W _) _⟩;rw [Ab (Ai W _),Fz (by show 6+j<37;omega)];rfl)
 have hs1:(Al ⟨2,zC,zM,zL,zH,[],0⟩ aF).take 6++(((Al ⟨2,zC,zM,zL,zH,[],0⟩ aF).drop 6).take 12++(Al ⟨2,zC,zM,zL,zH,[],0⟩ aF).drop 18)=Al ⟨2,zC,zM,zL,zH,[],0⟩ aF:=rfl;have hs2:(Al ⟨2,zC,zM,zL,zH,[],0⟩ aF).take 6++(A5 me s.vk++(Al ⟨2,zC,zM,zL,zH,[],0⟩ aF).drop 18)=Al ⟨2,zC,me,zL,zH,[],0⟩ ⟨.slice none 0 0,s.vk,.slice none 0 0,.slice none 0 0,.slice none 0 0⟩:=rfl;have hs3:((Al ⟨2,zC,zM,zL,zH,[],0⟩ aF).take 6).length=6:=rfl;rw [hs1,hs2,hs3] at hsp;clear hs1 hs2 hs3 h;have hlz:(Al ⟨2,zC,zM,zL,zH,[],0⟩ aF).length=37:=rfl;generalize A5 me s.vk=C1 at *;generalize hZ:Al ⟨2,zC,zM,zL,zH,[],0⟩ aF=Z at *;dsimp only [Al,Bb,A5,Bu,A4,ay,aJ,zC,zM,zL,zH,aF,CH.Formula.op,CH.Formula.name,CH.Formula.cmp,CH.Formula.n,List.cons_append,List.nil_append] at hZ;have hlit:=congrArg List.toArray hZ;clear hZ;generalize Al ⟨2,zC,me,zL,zH,[],0⟩ s=C at *;generalize Al ⟨2,zC,me,zL,zH,[],0⟩ ⟨.slice none 0 0,s.vk,.slice none 0 0,.slice none 0 0,.slice none 0 0⟩=C' at *;have hr0:=Aa (B6 w C 69);obtain⟨k0,q1,q6,q18,q25,_,_⟩:=P.out _ _ hr0.out;have r1:=Aa (Ds q6 (.cells Z.toArray 69));have k0':=(((Ac _ _).alloc nR (.cells Z.toArray 69)).cell (p:=⟨w,0,none⟩) sM).trans k0;clear q1 q6 q18 q25;have hlz:=Aa hlz;have hra:=Aa (Ds hr0.out (.cells C'.toArray 69));have hrb:Hid (((w.alloc (.cells C.toArray 69)).alloc (.cells C'.toArray 69)).rangeAt (w.heap.size+1) 0 C'):=Aa (by have:=B6 (w.alloc (.cells C.toArray 69)) C' 69;rwa [Cc] at this);have hth:=gQ.out (w.alloc (.cells C.toArray 69));rw [Cc] at hth;have jM:=hsp.out (w.alloc (.cells C.toArray 69));rw [Cc] at jM;replace jM:=Aa jM;replace hth:=Aa hth;have hB2:=Aa (((Ac _ w).alloc nR (.cells C.toArray 69)).alloc sM (.cells C'.toArray 69));clear hsp gQ P;go_enter func74,ntmps74;go_wp2_with (first|refine wpList_buildTo rfl 69 _ rfl _ rfl Z.toArray hbu ?_|refine Cz (w+1) sM rfl 69 _ _ rfl Z rfl rfl (by rw [hlz.out];rfl) iZ h1Z ?_|refine Bh rfl 65 _ rfl w (0+6) rfl C1 _ r1.out underlying65 rfl i1 ?_|refine Gn rfl 65 _ _ rfl (w+1) 6 C1.toArray rfl rfl hth.out (by simpa using i1) (Em hone) ?_;rw [jM.out]|refine Bh rfl 69 _ rfl w 0 rfl C _ hra.out underlying69 rfl iA ?_|refine Bh rfl 69 _ rfl (w+1) 0 rfl C' _ hrb.out underlying69 rfl iB ?_)
 refine (S.out _ hB2.out).mono ?_;rintro e w1 ⟨rfl,hb1⟩;go_wp2;go_ret;exact⟨rfl,hB2.out.trans (hb1.mono hB2.out.size)⟩
theorem Zr (a:CH.Act) (s:fF) (w:ZB) (h:cu w w a s) (hu:CH.unused a=true) (hk:a.kind=3) : ZE prog 74 #[.agg (Al a s).toArray] w (Ret w (.bool true)):=by
 obtain⟨u1,u2,u4,u6,u7⟩:=fO hu;have e1:=u1 oM;have e2:=u2 oM;have e4:=u4 oM;have e6:=u6 oM;obtain⟨kd,ch,me,li,ho,id,n⟩:=a;dsimp only at *;subst hk e1 e2 e4 e6;clear hu u1 u2 u4 u6 u7;have S:=Aa fun (W:ZB) (hb:Below w w W)=>Hj ⟨3,zC,zM,zL,zH,id,n⟩ s aF W ((h.below hb nR).mono hb.size) (Mm _ _ _ _ _);have P:=Aa fun (W:ZB) (b:Nat) (hr:W.rangeAt b 0 (Al ⟨3,zC,zM,zL,zH,id,n⟩ s))=>Ek hr;have iA:(prog.info? 69).map (·.size)=some (Al ⟨3,zC,zM,zL,zH,id,n⟩ s).length:=kR;have iB:(prog.info? 69).map (·.size)=some (Al ⟨3,zC,zM,zL,zH,id,n⟩ aF).length:=kR;have iZ:(prog.info? 69).map (·.size)=some (Al ⟨3,zC,zM,zL,zH,[],0⟩ aF).length:=kR;have h1Z:∀ v∈Al ⟨3,zC,zM,zL,zH,[],0⟩ aF,v.oneCell'=true:=Cq (Mm w w 3 [] 0);have hset:((Al ⟨3,zC,zM,zL,zH,[],0⟩ aF).toArray.setIfInBounds 35 ↑id).setIfInBounds 36 ↑n=(Al ⟨3,zC,zM,zL,zH,id,n⟩ aF).toArray:=by rw [List.setIfInBounds_toArray,List.setIfInBounds_toArray];rfl
 have hset':(((Al ⟨3,zC,zM,zL,zH,[],0⟩ aF).set 35 ↑id).set 36 ↑n)=Al ⟨3,zC,zM,zL,zH,id,n⟩ aF:=rfl;clear h;have hlz:(Al ⟨3,zC,zM,zL,zH,[],0⟩ aF).length=37:=rfl;generalize hZ:Al ⟨3,zC,zM,zL,zH,[],0⟩ aF=Z at *;dsimp only [Al,Bb,A5,Bu,A4,ay,aJ,zC,zM,zL,zH,aF,CH.Formula.op,CH.Formula.name,CH.Formula.cmp,CH.Formula.n,List.cons_append,List.nil_append] at hZ;have hlit:=congrArg List.toArray hZ;have hZ2:=Aa hZ;clear hZ;generalize Al ⟨3,zC,zM,zL,zH,id,n⟩ s=C at *;generalize Al ⟨3,zC,zM,zL,zH,id,n⟩ aF=C' at *;have hr0:=Aa (B6 w C 69);obtain⟨k0,_,_,_,_,k35,k36⟩:=P.out _ _ hr0.out;rw [Bl] at k35 k36;have hlz:=Aa hlz;have hra:=Aa (Ds hr0.out (.cells C'.toArray 69));have hrb:Hid (((w.alloc (.cells C.toArray 69)).alloc (.cells C'.toArray 69)).rangeAt (w.heap.size+1) 0 C'):=Aa (by have:=B6 (w.alloc (.cells C.toArray 69)) C' 69;rwa [Cc] at this);have hB2:=Aa (((Ac _ w).alloc nR (.cells C.toArray 69)).alloc sM (.cells C'.toArray 69));have kk:=fun (D:Array ZC)=>(((Ac _ (w.alloc (.cells C.toArray 69))).alloc nR (.cells D 69)).cell (p:=⟨w,0,none⟩) sM).trans k0;have qx:=fun (D:Array ZC)=>(((Ac _ (w.alloc (.cells C.toArray 69))).alloc nR (.cells D 69)).cell (p:=⟨w,35,none⟩) sM).trans k35;have qw:=fun (D:Array ZC)=>(((Ac _ (w.alloc (.cells C.toArray 69))).alloc nR (.cells D 69)).cell (p:=⟨w,36,none⟩) sM).trans k36;have hset:=Aa hset;obtain⟨D,hD⟩:∃ D,Hid (Z.set 35 ↑id=D):=⟨_,Aa rfl⟩
 have hbk:=fun (D:List ZC)=>(show ((w.alloc (.cells C.toArray 69)).alloc (.cells D.toArray 69)).heap[w.heap.size+1]?=some (.cells D.toArray 69 (0,0)) from by have:=Ai (w.alloc (.cells C.toArray 69)) (.cells D.toArray 69);rwa [Cc] at this)
 have hth:=fun (D:List ZC) (o:Nat) (ho:o<D.length)=>(show ((w.alloc (.cells C.toArray 69)).alloc (.cells D.toArray 69)).there (w.heap.size+1) o 1 from fun j hj=>by obtain rfl:j=0:=oM;refine⟨?_,Be (hbk D) _⟩;rw [Ab (hbk D),Hl,G9,Ad ho];rfl)
 have uq:=Aa (hth Z 35 (by rw [hlz.out];omega));have uo:=Aa (hth D 36 (by rw [<- hD.out,Mc,hlz.out];omega));have hw1:Hid (((w.alloc (.cells C.toArray 69)).alloc (.cells Z.toArray 69)).setCell ⟨w+1,35,none⟩ ↑id=(w.alloc (.cells C.toArray 69)).alloc (.cells D.toArray 69)):=Aa (by rw [Gz _ _ _ _ _ sM,List.setIfInBounds_toArray,hD.out]);have hw2:Hid (((w.alloc (.cells C.toArray 69)).alloc (.cells D.toArray 69)).setCell ⟨w+1,36,none⟩ ↑n=(w.alloc (.cells C.toArray 69)).alloc (.cells C'.toArray 69)):=Aa (by rw [Gz _ _ _ _ _ sM,List.setIfInBounds_toArray,<- hD.out,hset']);have is:(prog.info? 9).map (·.size)=some 1:=kR;have ii:(prog.info? 3).map (·.size)=some 1:=kR;have m0:=kk Z.toArray;have m35:=qx Z.toArray;have m36:=qw D.toArray;clear P hset' hbk hth hset hZ2 kk qx qw k35 k36;go_enter func74,ntmps74;go_wp2_with (first|refine Cz (w+1) sM rfl 69 _ _ rfl Z rfl rfl (by rw [hlz.out];rfl) iZ h1Z ?_|refine Ev rfl 9 _ _ rfl (w+1) 35 ↑id _ rfl rfl rfl uq.out is hw1.out ?_|refine Ev rfl 3 _ _ rfl (w+1) 36 ↑n _ rfl rfl rfl uo.out ii hw2.out ?_|refine Bh rfl 69 _ rfl w 0 rfl C _ hra.out underlying69 rfl iA ?_|refine Bh rfl 69 _ rfl (w+1) 0 rfl C' _ hrb.out underlying69 rfl iB ?_)
 refine (S.out _ hB2.out).mono ?_;rintro e w1 ⟨rfl,hb1⟩;go_wp2;go_ret;exact⟨rfl,hB2.out.trans (hb1.mono hB2.out.size)⟩
theorem Zq (a:CH.Act) (s:fF) (w:ZB) (h:cu w w a s) (hu:CH.unused a=true) (hk:a.kind=4) : ZE prog 74 #[.agg (Al a s).toArray] w (Ret w (.bool true)):=by
 obtain⟨u1,u2,u4,u6,u7⟩:=fO hu;have e1:=u1 oM;have e2:=u2 oM;have e6:=u6 oM;obtain⟨e7,e8⟩:=u7 oM;obtain⟨kd,ch,me,li,ho,id,n⟩:=a;dsimp only at *;subst hk e7 e8 e1 e2 e6;clear hu u1 u2 u4 u6 u7;have S:=Aa fun (W:ZB) (hb:Below w w W)=>Hj ⟨4,zC,zM,li,zH,[],0⟩ s ⟨.slice none 0 0,.slice none 0 0,s.vm,s.vp,.slice none 0 0⟩ W ((h.below hb nR).mono hb.size) ⟨Tr _ _,O9 _ _,((h.below hb nR).mono hb.size).lm,((h.below hb nR).mono hb.size).lp,It _ _⟩;have i1:(prog.info? 67).map (·.size)=some (Bu li s.vm s.vp).length:=kR;have hone:∀ v∈Bu li s.vm s.vp,v.oneCell'=true:=fun v hv=>Cq h v (by unfold Al;exact List.mem_cons_of_mem _ (List.mem_append_right _ (List.mem_append_right _ (List.mem_append_left _ hv))));have P:=Aa fun (W:ZB) (b:Nat) (hr:W.rangeAt b 0 (Al ⟨4,zC,zM,li,zH,[],0⟩ s))=>Ek hr;have iA:(prog.info? 69).map (·.size)=some (Al ⟨4,zC,zM,li,zH,[],0⟩ s).length:=kR;have iB:(prog.info? 69).map (·.size)=some (Al ⟨4,zC,zM,li,zH,[],0⟩ ⟨.slice none 0 0,.slice none 0 0,s.vm,s.vp,.slice none 0 0⟩).length:=kR;have iZ:(prog.info? 69).map (·.size)=some (Al ⟨4,zC,zM,zL,zH,[],0⟩ aF).length:=kR;have hbu:prog.built 69 [(0,.int .i64 4)]=some (Al ⟨4,zC,zM,zL,zH,[],0⟩ aF).toArray:=kR;have h1Z:∀ v∈Al ⟨4,zC,zM,zL,zH,[],0⟩ aF,v.oneCell'=true:=Cq (Mm w w 4 [] 0);have hsp:=Aa fun (W:ZB)=>H5 W 69 (Bu li s.vm s.vp) ((Al ⟨4,zC,zM,zL,zH,[],0⟩ aF).take 18) (((Al ⟨4,zC,zM,zL,zH,[],0⟩ aF).drop 18).take 7) ((Al ⟨4,zC,zM,zL,zH,[],0⟩ aF).drop 25) rfl;have gQ:=Aa fun (W:ZB)=>(show (W.alloc (.cells (Al ⟨4,zC,zM,zL,zH,[],0⟩ aF).toArray 69)).there W.heap.size 18 (Bu li s.vm s.vp).toArray.size from fun j hj=>by have hj2:j<7:=hj;refine⟨?_,Be (Ai W _) _⟩;rw [Ab (Ai W _),Fz (by show 18+j<37;omega)];rfl)
 have hs1:(Al ⟨4,zC,zM,zL,zH,[],0⟩ aF).take 18++(((Al ⟨4,zC,zM,zL,zH,[],0⟩ aF).drop 18).take 7++(Al ⟨4,zC,zM,zL,zH,[],0⟩ aF).drop 25)=Al ⟨4,zC,zM,zL,zH,[],0⟩ aF:=rfl;have hs2:(Al ⟨4,zC,zM,zL,zH,[],0⟩ aF).take 18++(Bu li s.vm s.vp++(Al ⟨4,zC,zM,zL,zH,[],0⟩ aF).drop 25)=Al ⟨4,zC,zM,li,zH,[],0⟩ ⟨.slice none 0 0,.slice none 0 0,s.vm,s.vp,.slice none 0 0⟩:=rfl;have hs3:((Al ⟨4,zC,zM,zL,zH,[],0⟩ aF).take 18).length=18:=rfl;rw [hs1,hs2,hs3] at hsp;clear hs1 hs2 hs3 h;have hlz:(Al ⟨4,zC,zM,zL,zH,[],0⟩ aF).length=37:=rfl;generalize Bu li s.vm s.vp=C1 at *;generalize hZ:Al ⟨4,zC,zM,zL,zH,[],0⟩ aF=Z at *;dsimp only [Al,Bb,A5,Bu,A4,ay,aJ,zC,zM,zL,zH,aF,CH.Formula.op,CH.Formula.name,CH.Formula.cmp,CH.Formula.n,List.cons_append,List.nil_append] at hZ;have hlit:=congrArg List.toArray hZ;clear hZ;generalize Al ⟨4,zC,zM,li,zH,[],0⟩ s=C at *;generalize Al ⟨4,zC,zM,li,zH,[],0⟩ ⟨.slice none 0 0,.slice none 0 0,s.vm,s.vp,.slice none 0 0⟩=C' at *;have hr0:=Aa (B6 w C 69);obtain⟨k0,q1,q6,q18,q25,_,_⟩:=P.out _ _ hr0.out;have r1:=Aa (Ds q18 (.cells Z.toArray 69));have k0':=(((Ac _ _).alloc nR (.cells Z.toArray 69)).cell (p:=⟨w,0,none⟩) sM).trans k0;clear q1 q6 q18 q25;have hlz:=Aa hlz;have hra:=Aa (Ds hr0.out (.cells C'.toArray 69));have hrb:Hid (((w.alloc (.cells C.toArray 69)).alloc (.cells C'.toArray 69)).rangeAt (w.heap.size+1) 0 C'):=Aa (by have:=B6 (w.alloc (.cells C.toArray 69)) C' 69;rwa [Cc] at this);have hth:=gQ.out (w.alloc (.cells C.toArray 69));rw [Cc] at hth;have jM:=hsp.out (w.alloc (.cells C.toArray 69));rw [Cc] at jM;replace jM:=Aa jM;replace hth:=Aa hth;have hB2:=Aa (((Ac _ w).alloc nR (.cells C.toArray 69)).alloc sM (.cells C'.toArray 69));clear hsp gQ P;go_enter func74,ntmps74;go_wp2_with (first|refine wpList_buildTo rfl 69 _ rfl _ rfl Z.toArray hbu ?_|refine Cz (w+1) sM rfl 69 _ _ rfl Z rfl rfl (by rw [hlz.out];rfl) iZ h1Z ?_|refine Bh rfl 67 _ rfl w (0+18) rfl C1 _ r1.out underlying67 rfl i1 ?_|refine Gn rfl 67 _ _ rfl (w+1) 18 C1.toArray rfl rfl hth.out (by simpa using i1) (Em hone) ?_;rw [jM.out]|refine Bh rfl 69 _ rfl w 0 rfl C _ hra.out underlying69 rfl iA ?_|refine Bh rfl 69 _ rfl (w+1) 0 rfl C' _ hrb.out underlying69 rfl iB ?_)
 refine (S.out _ hB2.out).mono ?_;rintro e w1 ⟨rfl,hb1⟩;go_wp2;go_ret;exact⟨rfl,hB2.out.trans (hb1.mono hB2.out.size)⟩
theorem Zp (a:CH.Act) (s:fF) (w:ZB) (h:cu w w a s) (hu:CH.unused a=true) (hk:a.kind=5) : ZE prog 74 #[.agg (Al a s).toArray] w (Ret w (.bool true)):=by
 obtain⟨u1,u2,u4,u6,u7⟩:=fO hu;have e1:=u1 oM;have e2:=u2 oM;have e4:=u4 oM;have e6:=u6 oM;obtain⟨kd,ch,me,li,ho,id,n⟩:=a;dsimp only at *;subst hk e1 e2 e4 e6;clear hu u1 u2 u4 u6 u7;have S:=Aa fun (W:ZB) (hb:Below w w W)=>Hj ⟨5,zC,zM,zL,zH,id,n⟩ s aF W ((h.below hb nR).mono hb.size) (Mm _ _ _ _ _);have P:=Aa fun (W:ZB) (b:Nat) (hr:W.rangeAt b 0 (Al ⟨5,zC,zM,zL,zH,id,n⟩ s))=>Ek hr;have iA:(prog.info? 69).map (·.size)=some (Al ⟨5,zC,zM,zL,zH,id,n⟩ s).length:=kR;have iB:(prog.info? 69).map (·.size)=some (Al ⟨5,zC,zM,zL,zH,id,n⟩ aF).length:=kR;have iZ:(prog.info? 69).map (·.size)=some (Al ⟨5,zC,zM,zL,zH,[],0⟩ aF).length:=kR;have h1Z:∀ v∈Al ⟨5,zC,zM,zL,zH,[],0⟩ aF,v.oneCell'=true:=Cq (Mm w w 5 [] 0);have hset:((Al ⟨5,zC,zM,zL,zH,[],0⟩ aF).toArray.setIfInBounds 35 ↑id).setIfInBounds 36 ↑n=(Al ⟨5,zC,zM,zL,zH,id,n⟩ aF).toArray:=by rw [List.setIfInBounds_toArray,List.setIfInBounds_toArray];rfl
 have hset':(((Al ⟨5,zC,zM,zL,zH,[],0⟩ aF).set 35 ↑id).set 36 ↑n)=Al ⟨5,zC,zM,zL,zH,id,n⟩ aF:=rfl;clear h;have hlz:(Al ⟨5,zC,zM,zL,zH,[],0⟩ aF).length=37:=rfl;generalize hZ:Al ⟨5,zC,zM,zL,zH,[],0⟩ aF=Z at *;dsimp only [Al,Bb,A5,Bu,A4,ay,aJ,zC,zM,zL,zH,aF,CH.Formula.op,CH.Formula.name,CH.Formula.cmp,CH.Formula.n,List.cons_append,List.nil_append] at hZ;have hlit:=congrArg List.toArray hZ;have hZ2:=Aa hZ;clear hZ;generalize Al ⟨5,zC,zM,zL,zH,id,n⟩ s=C at *;generalize Al ⟨5,zC,zM,zL,zH,id,n⟩ aF=C' at *;have hr0:=Aa (B6 w C 69);obtain⟨k0,_,_,_,_,k35,k36⟩:=P.out _ _ hr0.out;rw [Bl] at k35 k36;have hlz:=Aa hlz;have hra:=Aa (Ds hr0.out (.cells C'.toArray 69));have hrb:Hid (((w.alloc (.cells C.toArray 69)).alloc (.cells C'.toArray 69)).rangeAt (w.heap.size+1) 0 C'):=Aa (by have:=B6 (w.alloc (.cells C.toArray 69)) C' 69;rwa [Cc] at this);have hB2:=Aa (((Ac _ w).alloc nR (.cells C.toArray 69)).alloc sM (.cells C'.toArray 69));have kk:=fun (D:Array ZC)=>(((Ac _ (w.alloc (.cells C.toArray 69))).alloc nR (.cells D 69)).cell (p:=⟨w,0,none⟩) sM).trans k0;have qx:=fun (D:Array ZC)=>(((Ac _ (w.alloc (.cells C.toArray 69))).alloc nR (.cells D 69)).cell (p:=⟨w,35,none⟩) sM).trans k35;have qw:=fun (D:Array ZC)=>(((Ac _ (w.alloc (.cells C.toArray 69))).alloc nR (.cells D 69)).cell (p:=⟨w,36,none⟩) sM).trans k36;have hset:=Aa hset;obtain⟨D,hD⟩:∃ D,Hid (Z.set 35 ↑id=D):=⟨_,Aa rfl⟩
 have hbk:=fun (D:List ZC)=>(show ((w.alloc (.cells C.toArray 69)).alloc (.cells D.toArray 69)).heap[w.heap.size+1]?=some (.cells D.toArray 69 (0,0)) from by have:=Ai (w.alloc (.cells C.toArray 69)) (.cells D.toArray 69);rwa [Cc] at this)
 have hth:=fun (D:List ZC) (o:Nat) (ho:o<D.length)=>(show ((w.alloc (.cells C.toArray 69)).alloc (.cells D.toArray 69)).there (w.heap.size+1) o 1 from fun j hj=>by obtain rfl:j=0:=oM;refine⟨?_,Be (hbk D) _⟩;rw [Ab (hbk D),Hl,G9,Ad ho];rfl)
 have uq:=Aa (hth Z 35 (by rw [hlz.out];omega));have uo:=Aa (hth D 36 (by rw [<- hD.out,Mc,hlz.out];omega));have hw1:Hid (((w.alloc (.cells C.toArray 69)).alloc (.cells Z.toArray 69)).setCell ⟨w+1,35,none⟩ ↑id=(w.alloc (.cells C.toArray 69)).alloc (.cells D.toArray 69)):=Aa (by rw [Gz _ _ _ _ _ sM,List.setIfInBounds_toArray,hD.out]);have hw2:Hid (((w.alloc (.cells C.toArray 69)).alloc (.cells D.toArray 69)).setCell ⟨w+1,36,none⟩ ↑n=(w.alloc (.cells C.toArray 69)).alloc (.cells C'.toArray 69)):=Aa (by rw [Gz _ _ _ _ _ sM,List.setIfInBounds_toArray,<- hD.out,hset']);have is:(prog.info? 9).map (·.size)=some 1:=kR;have ii:(prog.info? 3).map (·.size)=some 1:=kR;have m0:=kk Z.toArray;have m35:=qx Z.toArray;have m36:=qw D.toArray;clear P hset' hbk hth hset hZ2 kk qx qw k35 k36;go_enter func74,ntmps74;go_wp2_with (first|refine Cz (w+1) sM rfl 69 _ _ rfl Z rfl rfl (by rw [hlz.out];rfl) iZ h1Z ?_|refine Ev rfl 9 _ _ rfl (w+1) 35 ↑id _ rfl rfl rfl uq.out is hw1.out ?_|refine Ev rfl 3 _ _ rfl (w+1) 36 ↑n _ rfl rfl rfl uo.out ii hw2.out ?_|refine Bh rfl 69 _ rfl w 0 rfl C _ hra.out underlying69 rfl iA ?_|refine Bh rfl 69 _ rfl (w+1) 0 rfl C' _ hrb.out underlying69 rfl iB ?_)
 refine (S.out _ hB2.out).mono ?_;rintro e w1 ⟨rfl,hb1⟩;go_wp2;go_ret;exact⟨rfl,hB2.out.trans (hb1.mono hB2.out.size)⟩
theorem Zn (a:CH.Act) (s:fF) (w:ZB) (h:cu w w a s) (hu:CH.unused a=true) (hk:a.kind=6) : ZE prog 74 #[.agg (Al a s).toArray] w (Ret w (.bool true)):=by
 obtain⟨u1,u2,u4,u6,u7⟩:=fO hu;have e1:=u1 oM;have e2:=u2 oM;have e4:=u4 oM;obtain⟨e7,e8⟩:=u7 oM;obtain⟨kd,ch,me,li,ho,id,n⟩:=a;dsimp only at *;subst hk e7 e8 e1 e2 e4;clear hu u1 u2 u4 u6 u7;have S:=Aa fun (W:ZB) (hb:Below w w W)=>Hj ⟨6,zC,zM,zL,ho,[],0⟩ s ⟨.slice none 0 0,.slice none 0 0,.slice none 0 0,.slice none 0 0,s.vj⟩ W ((h.below hb nR).mono hb.size) ⟨Tr _ _,O9 _ _,It _ _,It _ _,((h.below hb nR).mono hb.size).hj⟩;have i1:(prog.info? 55).map (·.size)=some (A4 ho s.vj).length:=kR;have hone:∀ v∈A4 ho s.vj,v.oneCell'=true:=fun v hv=>Cq h v (by unfold Al;exact List.mem_cons_of_mem _ (List.mem_append_right _ (List.mem_append_right _ (List.mem_append_right _ (List.mem_append_left _ hv)))));have P:=Aa fun (W:ZB) (b:Nat) (hr:W.rangeAt b 0 (Al ⟨6,zC,zM,zL,ho,[],0⟩ s))=>Ek hr;have iA:(prog.info? 69).map (·.size)=some (Al ⟨6,zC,zM,zL,ho,[],0⟩ s).length:=kR;have iB:(prog.info? 69).map (·.size)=some (Al ⟨6,zC,zM,zL,ho,[],0⟩ ⟨.slice none 0 0,.slice none 0 0,.slice none 0 0,.slice none 0 0,s.vj⟩).length:=kR;have iZ:(prog.info? 69).map (·.size)=some (Al ⟨6,zC,zM,zL,zH,[],0⟩ aF).length:=kR;have hbu:prog.built 69 [(0,.int .i64 6)]=some (Al ⟨6,zC,zM,zL,zH,[],0⟩ aF).toArray:=kR;have h1Z:∀ v∈Al ⟨6,zC,zM,zL,zH,[],0⟩ aF,v.oneCell'=true:=Cq (Mm w w 6 [] 0);have hsp:=Aa fun (W:ZB)=>H5 W 69 (A4 ho s.vj) ((Al ⟨6,zC,zM,zL,zH,[],0⟩ aF).take 25) (((Al ⟨6,zC,zM,zL,zH,[],0⟩ aF).drop 25).take 10) ((Al ⟨6,zC,zM,zL,zH,[],0⟩ aF).drop 35) rfl;have gQ:=Aa fun (W:ZB)=>(show (W.alloc (.cells (Al ⟨6,zC,zM,zL,zH,[],0⟩ aF).toArray 69)).there W.heap.size 25 (A4 ho s.vj).toArray.size from fun j hj=>by have hj2:j<10:=hj;refine⟨?_,Be (Ai W _) _⟩;rw [Ab (Ai W _),Fz (by show 25+j<37;omega)];rfl)
 have hs1:(Al ⟨6,zC,zM,zL,zH,[],0⟩ aF).take 25++(((Al ⟨6,zC,zM,zL,zH,[],0⟩ aF).drop 25).take 10++(Al ⟨6,zC,zM,zL,zH,[],0⟩ aF).drop 35)=Al ⟨6,zC,zM,zL,zH,[],0⟩ aF:=rfl;have hs2:(Al ⟨6,zC,zM,zL,zH,[],0⟩ aF).take 25++(A4 ho s.vj++(Al ⟨6,zC,zM,zL,zH,[],0⟩ aF).drop 35)=Al ⟨6,zC,zM,zL,ho,[],0⟩ ⟨.slice none 0 0,.slice none 0 0,.slice none 0 0,.slice none 0 0,s.vj⟩:=rfl;have hs3:((Al ⟨6,zC,zM,zL,zH,[],0⟩ aF).take 25).length=25:=rfl;rw [hs1,hs2,hs3] at hsp;clear hs1 hs2 hs3 h;have hlz:(Al ⟨6,zC,zM,zL,zH,[],0⟩ aF).length=37:=rfl;generalize A4 ho s.vj=C1 at *;generalize hZ:Al ⟨6,zC,zM,zL,zH,[],0⟩ aF=Z at *;dsimp only [Al,Bb,A5,Bu,A4,ay,aJ,zC,zM,zL,zH,aF,CH.Formula.op,CH.Formula.name,CH.Formula.cmp,CH.Formula.n,List.cons_append,List.nil_append] at hZ;have hlit:=congrArg List.toArray hZ;clear hZ;generalize Al ⟨6,zC,zM,zL,ho,[],0⟩ s=C at *;generalize Al ⟨6,zC,zM,zL,ho,[],0⟩ ⟨.slice none 0 0,.slice none 0 0,.slice none 0 0,.slice none 0 0,s.vj⟩=C' at *;have hr0:=Aa (B6 w C 69);obtain⟨k0,q1,q6,q18,q25,_,_⟩:=P.out _ _ hr0.out;have r1:=Aa (Ds q25 (.cells Z.toArray 69));have k0':=(((Ac _ _).alloc nR (.cells Z.toArray 69)).cell (p:=⟨w,0,none⟩) sM).trans k0;clear q1 q6 q18 q25;have hlz:=Aa hlz;have hra:=Aa (Ds hr0.out (.cells C'.toArray 69));have hrb:Hid (((w.alloc (.cells C.toArray 69)).alloc (.cells C'.toArray 69)).rangeAt (w.heap.size+1) 0 C'):=Aa (by have:=B6 (w.alloc (.cells C.toArray 69)) C' 69;rwa [Cc] at this);have hth:=gQ.out (w.alloc (.cells C.toArray 69));rw [Cc] at hth;have jM:=hsp.out (w.alloc (.cells C.toArray 69));rw [Cc] at jM;replace jM:=Aa jM;replace hth:=Aa hth;have hB2:=Aa (((Ac _ w).alloc nR (.cells C.toArray 69)).alloc sM (.cells C'.toArray 69));clear hsp gQ P;go_enter func74,ntmps74;go_wp2_with (first|refine wpList_buildTo rfl 69 _ rfl _ rfl Z.toArray hbu ?_|refine Cz (w+1) sM rfl 69 _ _ rfl Z rfl rfl (by rw [hlz.out];rfl) iZ h1Z ?_|refine Bh rfl 55 _ rfl w (0+25) rfl C1 _ r1.out underlying55 rfl i1 ?_|refine Gn rfl 55 _ _ rfl (w+1) 25 C1.toArray rfl rfl hth.out (by simpa using i1) (Em hone) ?_;rw [jM.out]|refine Bh rfl 69 _ rfl w 0 rfl C _ hra.out underlying69 rfl iA ?_|refine Bh rfl 69 _ rfl (w+1) 0 rfl C' _ hrb.out underlying69 rfl iB ?_)
 refine (S.out _ hB2.out).mono ?_;rintro e w1 ⟨rfl,hb1⟩;go_wp2;go_ret;exact⟨rfl,hB2.out.trans (hb1.mono hB2.out.size)⟩
theorem Zm (a:CH.Act) (s:fF) (w:ZB) (h:cu w w a s) (hu:CH.unused a=true) (hk:a.kind=7) : ZE prog 74 #[.agg (Al a s).toArray] w (Ret w (.bool true)):=by
 obtain⟨u1,u2,u4,u6,u7⟩:=fO hu;have e1:=u1 oM;have e2:=u2 oM;have e4:=u4 oM;have e6:=u6 oM;obtain⟨kd,ch,me,li,ho,id,n⟩:=a;dsimp only at *;subst hk e1 e2 e4 e6;clear hu u1 u2 u4 u6 u7;have S:=Aa fun (W:ZB) (hb:Below w w W)=>Hj ⟨7,zC,zM,zL,zH,id,n⟩ s aF W ((h.below hb nR).mono hb.size) (Mm _ _ _ _ _);have P:=Aa fun (W:ZB) (b:Nat) (hr:W.rangeAt b 0 (Al ⟨7,zC,zM,zL,zH,id,n⟩ s))=>Ek hr;have iA:(prog.info? 69).map (·.size)=some (Al ⟨7,zC,zM,zL,zH,id,n⟩ s).length:=kR;have iB:(prog.info? 69).map (·.size)=some (Al ⟨7,zC,zM,zL,zH,id,n⟩ aF).length:=kR;have iZ:(prog.info? 69).map (·.size)=some (Al ⟨7,zC,zM,zL,zH,[],0⟩ aF).length:=kR;have h1Z:∀ v∈Al ⟨7,zC,zM,zL,zH,[],0⟩ aF,v.oneCell'=true:=Cq (Mm w w 7 [] 0);have hset:((Al ⟨7,zC,zM,zL,zH,[],0⟩ aF).toArray.setIfInBounds 35 ↑id).setIfInBounds 36 ↑n=(Al ⟨7,zC,zM,zL,zH,id,n⟩ aF).toArray:=by rw [List.setIfInBounds_toArray,List.setIfInBounds_toArray];rfl
 have hset':(((Al ⟨7,zC,zM,zL,zH,[],0⟩ aF).set 35 ↑id).set 36 ↑n)=Al ⟨7,zC,zM,zL,zH,id,n⟩ aF:=rfl;clear h;have hlz:(Al ⟨7,zC,zM,zL,zH,[],0⟩ aF).length=37:=rfl;generalize hZ:Al ⟨7,zC,zM,zL,zH,[],0⟩ aF=Z at *;dsimp only [Al,Bb,A5,Bu,A4,ay,aJ,zC,zM,zL,zH,aF,CH.Formula.op,CH.Formula.name,CH.Formula.cmp,CH.Formula.n,List.cons_append,List.nil_append] at hZ;have hlit:=congrArg List.toArray hZ;have hZ2:=Aa hZ;clear hZ;generalize Al ⟨7,zC,zM,zL,zH,id,n⟩ s=C at *;generalize Al ⟨7,zC,zM,zL,zH,id,n⟩ aF=C' at *;have hr0:=Aa (B6 w C 69);obtain⟨k0,_,_,_,_,k35,k36⟩:=P.out _ _ hr0.out;rw [Bl] at k35 k36;have hlz:=Aa hlz;have hra:=Aa (Ds hr0.out (.cells C'.toArray 69));have hrb:Hid (((w.alloc (.cells C.toArray 69)).alloc (.cells C'.toArray 69)).rangeAt (w.heap.size+1) 0 C'):=Aa (by have:=B6 (w.alloc (.cells C.toArray 69)) C' 69;rwa [Cc] at this);have hB2:=Aa (((Ac _ w).alloc nR (.cells C.toArray 69)).alloc sM (.cells C'.toArray 69));have kk:=fun (D:Array ZC)=>(((Ac _ (w.alloc (.cells C.toArray 69))).alloc nR (.cells D 69)).cell (p:=⟨w,0,none⟩) sM).trans k0;have qx:=fun (D:Array ZC)=>(((Ac _ (w.alloc (.cells C.toArray 69))).alloc nR (.cells D 69)).cell (p:=⟨w,35,none⟩) sM).trans k35;have qw:=fun (D:Array ZC)=>(((Ac _ (w.alloc (.cells C.toArray 69))).alloc nR (.cells D 69)).cell (p:=⟨w,36,none⟩) sM).trans k36;have hset:=Aa hset;obtain⟨D,hD⟩:∃ D,Hid (Z.set 35 ↑id=D):=⟨_,Aa rfl⟩
 have hbk:=fun (D:List ZC)=>(show ((w.alloc (.cells C.toArray 69)).alloc (.cells D.toArray 69)).heap[w.heap.size+1]?=some (.cells D.toArray 69 (0,0)) from by have:=Ai (w.alloc (.cells C.toArray 69)) (.cells D.toArray 69);rwa [Cc] at this)
 have hth:=fun (D:List ZC) (o:Nat) (ho:o<D.length)=>(show ((w.alloc (.cells C.toArray 69)).alloc (.cells D.toArray 69)).there (w.heap.size+1) o 1 from fun j hj=>by obtain rfl:j=0:=oM;refine⟨?_,Be (hbk D) _⟩;rw [Ab (hbk D),Hl,G9,Ad ho];rfl)
 have uq:=Aa (hth Z 35 (by rw [hlz.out];omega));have uo:=Aa (hth D 36 (by rw [<- hD.out,Mc,hlz.out];omega));have hw1:Hid (((w.alloc (.cells C.toArray 69)).alloc (.cells Z.toArray 69)).setCell ⟨w+1,35,none⟩ ↑id=(w.alloc (.cells C.toArray 69)).alloc (.cells D.toArray 69)):=Aa (by rw [Gz _ _ _ _ _ sM,List.setIfInBounds_toArray,hD.out]);have hw2:Hid (((w.alloc (.cells C.toArray 69)).alloc (.cells D.toArray 69)).setCell ⟨w+1,36,none⟩ ↑n=(w.alloc (.cells C.toArray 69)).alloc (.cells C'.toArray 69)):=Aa (by rw [Gz _ _ _ _ _ sM,List.setIfInBounds_toArray,<- hD.out,hset']);have is:(prog.info? 9).map (·.size)=some 1:=kR;have ii:(prog.info? 3).map (·.size)=some 1:=kR;have m0:=kk Z.toArray;have m35:=qx Z.toArray;have m36:=qw D.toArray;clear P hset' hbk hth hset hZ2 kk qx qw k35 k36;go_enter func74,ntmps74;go_wp2_with (first|refine Cz (w+1) sM rfl 69 _ _ rfl Z rfl rfl (by rw [hlz.out];rfl) iZ h1Z ?_|refine Ev rfl 9 _ _ rfl (w+1) 35 ↑id _ rfl rfl rfl uq.out is hw1.out ?_|refine Ev rfl 3 _ _ rfl (w+1) 36 ↑n _ rfl rfl rfl uo.out ii hw2.out ?_|refine Bh rfl 69 _ rfl w 0 rfl C _ hra.out underlying69 rfl iA ?_|refine Bh rfl 69 _ rfl (w+1) 0 rfl C' _ hrb.out underlying69 rfl iB ?_)
 refine (S.out _ hB2.out).mono ?_;rintro e w1 ⟨rfl,hb1⟩;go_wp2;go_ret;exact⟨rfl,hB2.out.trans (hb1.mono hB2.out.size)⟩
theorem J2 (a:CH.Act) (s:fF) (w:ZB) (h:cu w w a s) (hu:CH.unused a=true) (hk:1<=a.kind/\a.kind<=7) : ZE prog 74 #[.agg (Al a s).toArray] w (Ret w (.bool true)):=by
 rcases (oM:a.kind=1\/a.kind=2\/a.kind=3\/a.kind=4\/a.kind=5\/a.kind=6\/a.kind=7) with e|e|e|e|e|e|e;·exact Zu a s w h hu e
 ·exact Zt a s w h hu e
 ·exact Zr a s w h hu e
 ·exact Zq a s w h hu e
 ·exact Zp a s w h hu e
 ·exact Zn a s w h hu e
 ·exact Zm a s w h hu e
end
section
open Go.Lib Go.Proofs.Tryz Go.RowKit Go.Shelf Go.Sort CH
attribute [local irreducible] wpQuiet
theorem Fm8 (a:CH.Act) (s:fF) (w:ZB) (ct:List UInt8) (h:cu w w a s) (hu:CH.unused a=true) (hk:a.kind=1) (TX:∀ (W:ZB),Below w w W->ZE prog 75 #[.agg (Bb a.change s.vn).toArray] W (Ret W (.tuple #[↑ct,.int .i64 0]))) (hl:ct.length<=1000000000) : ZE prog 39 #[.agg (Al a s).toArray] w (Ret w (.tuple #[.string ⟨(([99,104,97,110,103,101,32]:List UInt8)++ct).toArray⟩,.int .i64 0])):=by
 have AL:=Aa fun (W:ZB) (hb:Below w w W)=>J2 a s W ((h.below hb nR).mono hb.size) hu oM;have P:=Aa fun (W:ZB) (b:Nat) (hr:W.rangeAt b 0 (Al a s))=>Ek hr;rw [hk] at P;replace TX:=Aa TX;have iA:(prog.info? 69).map (·.size)=some (Al a s).length:=kR;have i1:(prog.info? 60).map (·.size)=some (Bb a.change s.vn).length:=kR;clear h hu;generalize Al a s=C at *;have hr0:=Aa (B6 w C 69);generalize Bb a.change s.vn=C1 at *;have hB0:=Aa ((Ac _ w).alloc nR (.cells C.toArray 69));have hq:¬ 9223372036854775807<7+ct.length:=oM;go_enter func39,ntmps39;go_wp2_with (refine Bh rfl 69 _ rfl w 0 rfl C _ hr0.out underlying69 rfl iA ?_)
 refine (AL.out _ hB0.out).mono ?_;rintro e w1 ⟨rfl,hb1⟩;have hB1:=hB0.out.trans (hb1.mono hB0.out.size);have PP:=P.out w1 _ (B9 hr0.out hb1 sM);have k0:=PP.1;have r1:=Aa (PP.2.1);clear PP P AL;go_wp2_with (refine Bh rfl 60 _ rfl w (0+1) rfl C1 _ r1.out underlying60 rfl i1 ?_)
 refine (TX.out _ hB1).mono ?_;rintro e w2 ⟨rfl,hb2⟩;clear TX;go_wp2;refine Au (Bc rfl _ _ _) rfl ?_;exact⟨congrArg (fun b=>Ending.returned (.tuple #[.string b,.int .i64 0])) (bytes_append _ _),hB1.trans (hb2.mono hB1.size)⟩
theorem Fl8 (a:CH.Act) (s:fF) (w:ZB) (ct:List UInt8) (h:cu w w a s) (hu:CH.unused a=true) (hk:a.kind=2) (TX:∀ (W:ZB),Below w w W->ZE prog 76 #[.agg (A5 a.measure s.vk).toArray] W (Ret W (.tuple #[↑ct,.int .i64 0]))) (hl:ct.length<=1000000000) : ZE prog 39 #[.agg (Al a s).toArray] w (Ret w (.tuple #[.string ⟨(([109,101,97,115,117,114,101,32]:List UInt8)++ct).toArray⟩,.int .i64 0])):=by
 have AL:=Aa fun (W:ZB) (hb:Below w w W)=>J2 a s W ((h.below hb nR).mono hb.size) hu oM;have P:=Aa fun (W:ZB) (b:Nat) (hr:W.rangeAt b 0 (Al a s))=>Ek hr;rw [hk] at P;replace TX:=Aa TX;have iA:(prog.info? 69).map (·.size)=some (Al a s).length:=kR;have i1:(prog.info? 65).map (·.size)=some (A5 a.measure s.vk).length:=kR;clear h hu;generalize Al a s=C at *;have hr0:=Aa (B6 w C 69);generalize A5 a.measure s.vk=C1 at *;have hB0:=Aa ((Ac _ w).alloc nR (.cells C.toArray 69));have hq:¬ 9223372036854775807<8+ct.length:=oM;go_enter func39,ntmps39;go_wp2_with (refine Bh rfl 69 _ rfl w 0 rfl C _ hr0.out underlying69 rfl iA ?_)
 refine (AL.out _ hB0.out).mono ?_;rintro e w1 ⟨rfl,hb1⟩;have hB1:=hB0.out.trans (hb1.mono hB0.out.size);have PP:=P.out w1 _ (B9 hr0.out hb1 sM);have k0:=PP.1;have r1:=Aa (PP.2.2.1);clear PP P AL;go_wp2_with (refine Bh rfl 65 _ rfl w (0+6) rfl C1 _ r1.out underlying65 rfl i1 ?_)
 refine (TX.out _ hB1).mono ?_;rintro e w2 ⟨rfl,hb2⟩;clear TX;go_wp2;refine Au (Bc rfl _ _ _) rfl ?_;exact⟨congrArg (fun b=>Ending.returned (.tuple #[.string b,.int .i64 0])) (bytes_append _ _),hB1.trans (hb2.mono hB1.size)⟩
end
section
open Go.Lib Go.Proofs.Tryz Go.RowKit Go.Shelf Go.Sort CH
attribute [local irreducible] wpQuiet
theorem Flb (a:CH.Act) (s:fF) (w:ZB) (h:cu w w a s) (hu:CH.unused a=true) (hk:a.kind=3) (hid:CH.isName a.id=true) (hn0:0<=a.n) (hn1:a.n<=100000) : ZE prog 39 #[.agg (Al a s).toArray] w (Ret w (.tuple #[.string ⟨(([114,101,112,101,97,108]:List UInt8)++[32]++a.id++[32]++ZK a.n++[59]).toArray⟩,.int .i64 0])):=by
 have AL:=Aa fun (W:ZB) (hb:Below w w W)=>J2 a s W ((h.below hb nR).mono hb.size) hu oM;have P:=Aa fun (W:ZB) (b:Nat) (hr:W.rangeAt b 0 (Al a s))=>Ek hr;rw [hk] at P;have NM:=Aa fun (W:ZB)=>J0 a.id W (by have:=(A9 hid).2;omega);rw [hid] at NM;have DE:=Aa fun (W:ZB)=>Cf a.n W oM oM;have hd:dh a.n=ZK a.n:=by unfold dh;rw [if_neg oM]
 rw [hd] at DE;have hil:=(A9 hid).2;have hnl:=Ng hn0 oM;have iA:(prog.info? 69).map (·.size)=some (Al a s).length:=kR;clear h hu hd hid;generalize Al a s=C at *;have hr0:=Aa (B6 w C 69);generalize ZK a.n=nt at *;generalize a.id=id at *;generalize a.n=n at *;have hB0:=Aa ((Ac _ w).alloc nR (.cells C.toArray 69));have q1:ZH (n<0)=false:=Aq oM;have q2:ZH (100000<n)=false:=Aq oM;have z1:¬ 9223372036854775807<6+1+id.length:=oM;have z2:¬ 9223372036854775807<6+1+id.length+1:=oM;have z3:¬ 9223372036854775807<6+1+id.length+1+nt.length:=oM;have z4:¬ 9223372036854775807<6+1+id.length+1+nt.length+1:=oM;clear hn0 hn1;go_enter func39,ntmps39;go_wp2_with (refine Bh rfl 69 _ rfl w 0 rfl C _ hr0.out underlying69 rfl iA ?_)
 refine (AL.out _ hB0.out).mono ?_;rintro e w1 ⟨rfl,hb1⟩;have hB1:=hB0.out.trans (hb1.mono hB0.out.size);have PP:=P.out w1 _ (B9 hr0.out hb1 sM);have k0:=PP.1;have k35:=PP.2.2.2.2.2.1;rw [Bl] at k35;clear PP AL;go_wp2_with fail;refine (NM.out _).mono ?_;rintro e w2 ⟨rfl,hb2⟩;have hB2:=hB1.trans (hb2.mono hB1.size);replace hb2:=hb1.trans (hb2.mono hb1.size);have PP:=P.out w2 _ (B9 hr0.out hb2 sM);clear k0 k35;have k0:=PP.1;have k35:=PP.2.2.2.2.2.1;have k36:=PP.2.2.2.2.2.2;rw [Bl] at k35 k36;have g35:=@Ae _ _ _ k35;have g36:=@Ae _ _ _ k36;clear PP P NM;go_wp2_with fail;refine Bd kR kR ?_;repeat (quiet_step ((with_reducible exact Bj (DE.out _))))
 refine C9 ?_;intro wq hbq;replace hbq:=At hbq;clear g35 g36 k0 k35 k36 DE;have hB3:=hB2.trans (hbq.mono hB2.size);go_wp2;refine Au (Bc rfl _ _ _) rfl ?_;exact⟨congrArg (fun b=>Ending.returned (.tuple #[.string b,.int .i64 0])) (by simp only [bytes_append,D9,Dq,Dn]),hB3⟩
theorem Fit (a:CH.Act) (s:fF) (w:ZB) (h:cu w w a s) (hu:CH.unused a=true) (hk:a.kind=5) (hid:CH.isName a.id=true) (hn0:0<=a.n) (hn1:a.n<=144001439) : ZE prog 39 #[.agg (Al a s).toArray] w (Ret w (.tuple #[.string ⟨(([114,101,118,111,107,101]:List UInt8)++[32]++a.id++[32]++ZK a.n++[59]).toArray⟩,.int .i64 0])):=by
 have AL:=Aa fun (W:ZB) (hb:Below w w W)=>J2 a s W ((h.below hb nR).mono hb.size) hu oM;have P:=Aa fun (W:ZB) (b:Nat) (hr:W.rangeAt b 0 (Al a s))=>Ek hr;rw [hk] at P;have NM:=Aa fun (W:ZB)=>J0 a.id W (by have:=(A9 hid).2;omega);rw [hid] at NM;have DE:=Aa fun (W:ZB)=>Cf a.n W oM oM;have hd:dh a.n=ZK a.n:=by unfold dh;rw [if_neg oM]
 rw [hd] at DE;have hil:=(A9 hid).2;have hnl:=Ng hn0 oM;have iA:(prog.info? 69).map (·.size)=some (Al a s).length:=kR;clear h hu hd hid;generalize Al a s=C at *;have hr0:=Aa (B6 w C 69);generalize ZK a.n=nt at *;generalize a.id=id at *;generalize a.n=n at *;have hB0:=Aa ((Ac _ w).alloc nR (.cells C.toArray 69));have q1:ZH (n<0)=false:=Aq oM;have q2:ZH (144001439<n)=false:=Aq oM;have z1:¬ 9223372036854775807<6+1+id.length:=oM;have z2:¬ 9223372036854775807<6+1+id.length+1:=oM;have z3:¬ 9223372036854775807<6+1+id.length+1+nt.length:=oM;have z4:¬ 9223372036854775807<6+1+id.length+1+nt.length+1:=oM;clear hn0 hn1;go_enter func39,ntmps39;go_wp2_with (refine Bh rfl 69 _ rfl w 0 rfl C _ hr0.out underlying69 rfl iA ?_)
 refine (AL.out _ hB0.out).mono ?_;rintro e w1 ⟨rfl,hb1⟩;have hB1:=hB0.out.trans (hb1.mono hB0.out.size);have PP:=P.out w1 _ (B9 hr0.out hb1 sM);have k0:=PP.1;have k35:=PP.2.2.2.2.2.1;rw [Bl] at k35;clear PP AL;go_wp2_with fail;refine (NM.out _).mono ?_;rintro e w2 ⟨rfl,hb2⟩;have hB2:=hB1.trans (hb2.mono hB1.size);replace hb2:=hb1.trans (hb2.mono hb1.size);have PP:=P.out w2 _ (B9 hr0.out hb2 sM);clear k0 k35;have k0:=PP.1;have k35:=PP.2.2.2.2.2.1;have k36:=PP.2.2.2.2.2.2;rw [Bl] at k35 k36;have g35:=@Ae _ _ _ k35;have g36:=@Ae _ _ _ k36;clear PP P NM;go_wp2_with fail;refine Bd kR kR ?_;repeat (quiet_step ((with_reducible exact Bj (DE.out _))))
 refine C9 ?_;intro wq hbq;replace hbq:=At hbq;clear g35 g36 k0 k35 k36 DE;have hB3:=hB2.trans (hbq.mono hB2.size);go_wp2;refine Au (Bc rfl _ _ _) rfl ?_;exact⟨congrArg (fun b=>Ending.returned (.tuple #[.string b,.int .i64 0])) (by simp only [bytes_append,D9,Dq,Dn]),hB3⟩
theorem Ffi (a:CH.Act) (s:fF) (w:ZB) (h:cu w w a s) (hu:CH.unused a=true) (hk:a.kind=7) (hid:CH.isName a.id=true) (hn0:0<=a.n) (hn1:a.n<=100000) : ZE prog 39 #[.agg (Al a s).toArray] w (Ret w (.tuple #[.string ⟨(([101,110,100]:List UInt8)++[32]++a.id++[32]++ZK a.n++[59]).toArray⟩,.int .i64 0])):=by
 have AL:=Aa fun (W:ZB) (hb:Below w w W)=>J2 a s W ((h.below hb nR).mono hb.size) hu oM;have P:=Aa fun (W:ZB) (b:Nat) (hr:W.rangeAt b 0 (Al a s))=>Ek hr;rw [hk] at P;have NM:=Aa fun (W:ZB)=>J0 a.id W (by have:=(A9 hid).2;omega);rw [hid] at NM;have DE:=Aa fun (W:ZB)=>Cf a.n W oM oM;have hd:dh a.n=ZK a.n:=by unfold dh;rw [if_neg oM]
 rw [hd] at DE;have hil:=(A9 hid).2;have hnl:=Ng hn0 oM;have iA:(prog.info? 69).map (·.size)=some (Al a s).length:=kR;clear h hu hd hid;generalize Al a s=C at *;have hr0:=Aa (B6 w C 69);generalize ZK a.n=nt at *;generalize a.id=id at *;generalize a.n=n at *;have hB0:=Aa ((Ac _ w).alloc nR (.cells C.toArray 69));have q1:ZH (n<0)=false:=Aq oM;have q2:ZH (100000<n)=false:=Aq oM;have z1:¬ 9223372036854775807<3+1+id.length:=oM;have z2:¬ 9223372036854775807<3+1+id.length+1:=oM;have z3:¬ 9223372036854775807<3+1+id.length+1+nt.length:=oM;have z4:¬ 9223372036854775807<3+1+id.length+1+nt.length+1:=oM;clear hn0 hn1;go_enter func39,ntmps39;go_wp2_with (refine Bh rfl 69 _ rfl w 0 rfl C _ hr0.out underlying69 rfl iA ?_)
 refine (AL.out _ hB0.out).mono ?_;rintro e w1 ⟨rfl,hb1⟩;have hB1:=hB0.out.trans (hb1.mono hB0.out.size);have PP:=P.out w1 _ (B9 hr0.out hb1 sM);have k0:=PP.1;have k35:=PP.2.2.2.2.2.1;rw [Bl] at k35;clear PP AL;go_wp2_with fail;refine (NM.out _).mono ?_;rintro e w2 ⟨rfl,hb2⟩;have hB2:=hB1.trans (hb2.mono hB1.size);replace hb2:=hb1.trans (hb2.mono hb1.size);have PP:=P.out w2 _ (B9 hr0.out hb2 sM);clear k0 k35;have k0:=PP.1;have k35:=PP.2.2.2.2.2.1;have k36:=PP.2.2.2.2.2.2;rw [Bl] at k35 k36;have g35:=@Ae _ _ _ k35;have g36:=@Ae _ _ _ k36;clear PP P NM;go_wp2_with fail;refine Bd kR kR ?_;repeat (quiet_step ((with_reducible exact Bj (DE.out _))))
 refine C9 ?_;intro wq hbq;replace hbq:=At hbq;clear g35 g36 k0 k35 k36 DE;have hB3:=hB2.trans (hbq.mono hB2.size);go_wp2;refine Au (Bc rfl _ _ _) rfl ?_;exact⟨congrArg (fun b=>Ending.returned (.tuple #[.string b,.int .i64 0])) (by simp only [bytes_append,D9,Dq,Dn]),hB3⟩
end
section
open Go.Lib Go.Proofs.Tryz Go.RowKit Go.Shelf Go.Sort CH
attribute [local irreducible] wpQuiet
theorem Fix (a:CH.Act) (s:fF) (w:ZB) (h:cu w w a s) (hu:CH.unused a=true) (hk:a.kind=4) (hok:aP a.licence=true) : ZE prog 39 #[.agg (Al a s).toArray] w (Ret w (.tuple #[.string ⟨(CH.join [32] ([([108,105,99,101,110,99,101]:List UInt8),a.licence.id,dh a.licence.quota,dh a.licence.uses,dh a.licence.start,dh a.licence.aB,dh a.licence.measures.length]++a.licence.measures++a.licence.aK)++[59]).toArray⟩,.int .i64 0])):=by
 have AL:=Aa fun (W:ZB) (hb:Below w w W)=>J2 a s W ((h.below hb nR).mono hb.size) hu oM;have P:=Aa fun (W:ZB) (b:Nat) (hr:W.rangeAt b 0 (Al a s))=>Ek hr;rw [hk] at P;have V:=Aa fun (W:ZB) (hb:Below w w W)=>Ux a.licence s.vm s.vp W ((h.lm.below hb nR).mono hb.size) ((h.lp.below hb nR).mono hb.size) hok;have HM:=Aa fun (W:ZB) (hb:Below w w W)=>h.lm.below hb nR;have HP:=Aa fun (W:ZB) (hb:Below w w W)=>h.lp.below hb nR;have hf:=hok;unfold aP CH.within aY at hf;simp only [Am,Bq] at hf;obtain⟨⟨⟨⟨⟨⟨k1,⟨⟨k2,_⟩,⟨k3,_⟩⟩,⟨k4,k5⟩,k6⟩,k7,k8⟩,k9,k10⟩,k11,k12⟩,k13,k14⟩,k15⟩:=hf;have D1:=Aa fun (W:ZB)=>Cf a.licence.quota W oM oM;have D2:=Aa fun (W:ZB)=>Cf a.licence.uses W oM oM;have D3:=Aa fun (W:ZB)=>Cf a.licence.start W oM oM;have D4:=Aa fun (W:ZB)=>Cf a.licence.aB W oM oM;have D5:=Aa fun (W:ZB)=>Cf (a.licence.measures.length:Int) W oM oM;have i0:(prog.info? 69).map (·.size)=some (Al a s).length:=kR;have i1:(prog.info? 67).map (·.size)=some (Bu a.licence s.vm s.vp).length:=kR;have hone:∀ v∈Bu a.licence s.vm s.vp,v.oneCell'=true:=fun v hv=>Cq h v (by unfold Al;exact List.mem_cons_of_mem _ (List.mem_append_right _ (List.mem_append_right _ (List.mem_append_left _ hv))));have dl:∀ n:Int,0<=n->n<=1000000000->(dh n).length<=21:=fun n h0 h1=>by unfold dh;rw [Ak oM];exact Lib.itoa_length_le n oM oM
 have hjl:(CH.join [32] ([([108,105,99,101,110,99,101]:List UInt8),a.licence.id,dh a.licence.quota,dh a.licence.uses,dh a.licence.start,dh a.licence.aB,dh a.licence.measures.length]++a.licence.measures++a.licence.aK)).length<=10000:=by
  have hj:=K6 [32] 30 ([([108,105,99,101,110,99,101]:List UInt8),a.licence.id,dh a.licence.quota,dh a.licence.uses,dh a.licence.start,dh a.licence.aB,dh a.licence.measures.length]++a.licence.measures++a.licence.aK) (fun l hl=>by
   rcases Dp.1 hl with hl|hl
   ·rcases Dp.1 hl with hl|hl
    ·simp only [A8,Ba,Dh] at hl;rcases hl with rfl|rfl|rfl|rfl|rfl|rfl|rfl;·decide
     ·have:=(A9 k1).2;omega
     all_goals exact Ag (dl _ oM oM) oM
    ·exact Ag (A9 (Dt.1 k2 l hl)).2 oM
   ·exact Ag (A9 (Dt.1 k3 l hl)).2 oM)
  simp only [Aj,Ar,Bo] at hj ⊢;have:(7+a.licence.measures.length+a.licence.aK.length)*31<=79*31:=Dj _ oM;omega
 obtain⟨am,cm,em,_,_⟩:=h.lm.form;obtain⟨ap,cp,ep,_,_⟩:=h.lp.form;have hcells:Bu a.licence s.vm s.vp=[↑a.licence.id,.slice am a.licence.measures.length cm,.slice ap a.licence.aK.length cp,↑a.licence.quota,↑a.licence.uses,↑a.licence.start,↑a.licence.aB]:=by unfold Bu;rw [em,ep]
 rw [em] at HM;rw [ep] at HP;have uD:=(A9 k1).2;replace hjl:=Aa hjl;have hns:a.licence.measures.length<=12/\a.licence.aK.length<=60:=⟨k5,k6⟩
 clear h hu em ep k1 k2 k3 k4 k5 k6 k7 k8 k9 k10 k11 k12 k13 k14 k15 dl hok;generalize dh a.licence.quota=d1 at *;generalize dh a.licence.uses=d2 at *;generalize dh a.licence.start=d3 at *;generalize dh a.licence.aB=d4 at *;generalize dh (a.licence.measures.length:Int)=d5 at *;generalize hms:a.licence.measures=ms at *;generalize hps:a.licence.aK=ps at *;generalize a.licence.id=id at *;generalize a.licence.quota=n1 at *;generalize a.licence.uses=n2 at *;generalize a.licence.start=n3 at *;generalize a.licence.aB=n4 at *;clear hms hps;obtain⟨R,hR⟩:∃ R,Hid (CH.join [32] ([([108,105,99,101,110,99,101]:List UInt8),id,d1,d2,d3,d4,d5]++ms++ps)=R):=⟨_,Aa rfl⟩
 have hRl:R.length<=10000:=by rw [<- hR.out];exact hjl.out
 rw [hR.out];obtain⟨NM,hNM⟩:∃ NM,ms.length=NM:=⟨_,rfl⟩
 obtain⟨NP,hNP⟩:∃ NP,ps.length=NP:=⟨_,rfl⟩
 rw [hNM,hNP] at hcells;rw [hNM] at HM D5;rw [hNP] at HP;generalize Al a s=C at *;generalize Bu a.licence s.vm s.vp=C1 at *;replace hcells:=Aa hcells;have hr0:=Aa (B6 w C 69);have hB0:=Aa ((Ac _ w).alloc nR (.cells C.toArray 69));have hl7:C1.length=7:=by rw [hcells.out];rfl
 replace hl7:=Aa hl7;go_enter func39,ntmps39;go_wp2_with (refine Bh rfl 69 _ rfl w 0 rfl C _ hr0.out underlying69 rfl i0 ?_)
 refine (AL.out _ hB0.out).mono ?_;rintro e w1 ⟨rfl,hb1⟩;have hB1:=hB0.out.trans (hb1.mono hB0.out.size);have PP:=P.out w1 _ (B9 hr0.out hb1 sM);have q0:=PP.1;have r1:=Aa PP.2.2.2.1;have hn1:=Aa (B6 w1 C1 67);clear PP P AL;go_wp2_with (first|refine Bh rfl 67 _ rfl w (0+18) rfl C1 _ r1.out underlying67 rfl i1 ?_|refine Ca rfl 67 _ _ rfl C1 rfl rfl (by rw [hl7.out];rfl) i1 hone ?_|refine Bh rfl 67 _ rfl w1 0 rfl C1 _ hn1.out underlying67 rfl i1 ?_)
 have hB2:=hB1.alloc hB1.size (.cells C1.toArray 67);refine (V.out _ hB2).mono ?_;rintro e w2 ⟨rfl,hb2⟩;have hB3:=hB2.trans (hb2.mono hB2.size);have hlt1:w1.heap.size<(w1.alloc (.cells C1.toArray 67)).heap.size:=sM;clear hone V;generalize w1.alloc (.cells C1.toArray 67)=Wl at *;have K:=Aa fun (W':ZB) (hb:Below Wl Wl W') (j:Nat) (u:ZC) (hj:C1[j]?=some u)=>(show W'.cell? ⟨w1,j,none⟩=some u from by have:=B9 hn1.out hb hlt1 j u hj;rwa [Bl] at this)
 rw [hcells.out] at K;have x0:=K.out w2 hb2 0 _ rfl;have x1:=K.out w2 hb2 1 _ rfl;have x3:=K.out w2 hb2 3 _ rfl;have x4:=K.out w2 hb2 4 _ rfl;have x5:=K.out w2 hb2 5 _ rfl;have x6:=K.out w2 hb2 6 _ rfl;have y0:=@Ae _ _ _ x0;have y1:=@Ae _ _ _ x1;have y3:=@Ae _ _ _ x3;have y4:=@Ae _ _ _ x4;have y5:=@Ae _ _ _ x5;have y6:=@Ae _ _ _ x6;clear q0 r1 i0 hr0;go_wp2_with fail;refine G0 18 kR kR ?_;simp only [I5,H7,J4,I7];repeat (quiet_step (first|(with_reducible exact Bj (D1.out _))|(with_reducible exact Bj (D2.out _))|(with_reducible exact Bj (D3.out _))|(with_reducible exact Bj (D4.out _))|(with_reducible exact Bj (D5.out _))))
 refine C9 ?_;intro wq hbq;replace hbq:=At hbq;clear y0 y1 y3 y4 y5 y6 x0 x1 x3 x4 x5 x6;have hbw:=hb2.trans (hbq.mono hb2.size);have hBq:=hB3.trans (hbq.mono hB3.size);have hO:=Ha wq [([108,105,99,101,110,99,101]:List UInt8),id,d1,d2,d3,d4,d5] sM;have hsz:wq.heap.size<=(wq.alloc (.cells ([([108,105,99,101,110,99,101]:List UInt8),id,d1,d2,d3,d4,d5].map ay).toArray 9)).heap.size:=sM;have hS0:Below wq wq (wq.alloc (.cells ([([108,105,99,101,110,99,101]:List UInt8),id,d1,d2,d3,d4,d5].map ay).toArray 9)):=(Ac _ wq).alloc nR _;simp only [Ew,Hz,ay,Ar,Bo,Bl,Nat.reduceAdd] at hO hsz hS0;go_wp2_with fail;generalize hW3:wq.alloc _=W3 at *;have hD:Below wq wq W3.drew:=hS0.drew;have hOd:=hO.below (Ac _ W3).drew;replace hjl:=Aa hjl;clear hW3 hO hS0 hbq;refine Ej (S:=fun W'=>Below wq wq W') kR hD (fun hHeld=>?_);refine tk 0 (v:=?_) rfl rF hHeld ?_ ?_;rotate_left;·(intro w hSw;go_simp;try with_reducible rfl)
 (try simp only [ZF,pD,pE,pF,pA,pB,pC]);refine tk 1 (v:=?_) rfl rF hHeld ?_ ?_;rotate_left;·(intro w hSw;go_simp;try with_reducible rfl)
 (try simp only [ZF,pD,pE,pF,pA,pB,pC]);refine tk 2 (v:=?_) rfl rF hHeld ?_ ?_;rotate_left;·(intro w hSw;have q:=K.out w (hbw.trans (hSw.mono hbw.size)) 1 _ rfl;go_simp;try with_reducible rfl)
 (try simp only [ZF,pD,pE,pF,pA,pB,pC]);refine tk 4 (v:=?_) rfl rF hHeld ?_ ?_;rotate_left;·(intro w hSw;go_simp;try with_reducible rfl)
 (try simp only [ZF,pD,pE,pF,pA,pB,pC]);refine tk 5 (v:=?_) rfl rF hHeld ?_ ?_;rotate_left;·(intro w hSw;have q:=K.out w (hbw.trans (hSw.mono hbw.size)) 2 _ rfl;go_simp;try with_reducible rfl)
 (try simp only [ZF,pD,pE,pF,pA,pB,pC]);refine rk 3 rfl (fun Kx hK=>?_);rw [Aw rF];refine Ct _ _ rfl wq _ _ rfl hOd w _ ms rfl (HM.out _ (hBq.trans (hD.mono hBq.size))) (by simp;omega) hD.size ?_;intro v4 w4 hO4 hg4;have hB4:Below wq wq w4:=hD.grown hg4 hD.size (fun j hj=>(D7 hOd j hj).1);refine hK.out _ _ hB4 (fun hHeld=>?_);clear hK;(try simp only [ZF,pD,pE,pF,pA,pB,pC]);refine rk 6 rfl (fun Kx hK=>?_);rw [Aw rF];refine Ct _ _ rfl wq _ _ rfl hO4 w _ ps rfl (HP.out _ (hBq.trans (hB4.mono hBq.size))) (by simp;omega) hB4.size ?_;intro v5 w5 hO5 hg5;have hB5:Below wq wq w5:=hB4.grown hg5 hB4.size (fun j hj=>(D7 hO4 j hj).1);refine hK.out _ _ hB5 (fun hHeld=>?_);clear hK;(try simp only [ZF,pD,pE,pF,pA,pB,pC]);refine tk 7 (v:=?_) rfl rF hHeld ?_ ?_;rotate_left;·(intro w hSw;go_simp;try with_reducible rfl)
 (try simp only [ZF,pD,pE,pF,pA,pB,pC]);refine D6 kR ?_ _;have hB6:=hBq.trans (hB5.mono hBq.size);have JJ:=Aa (O0 v5 _ w5 hO5.strs (by rw [hR.out];omega));rw [hR.out] at JJ;obtain⟨a5,c5,rfl,_,_,_⟩:=hO5.form;clear hHeld hO5 hg5 hB5 hO4 hg4 hB4 hOd hD;generalize List.length (([([108,105,99,101,110,99,101]:List UInt8),id,d1,d2,d3,d4,d5]:List (List UInt8))++ms++ps)=n5 at *;have hq:¬ 9223372036854775807<R.length+1:=oM;go_wp2_with fail;refine JJ.out.mono ?_;rintro e w6 ⟨rfl,hb6⟩;clear JJ;go_wp2;refine Au (Bc rfl _ _ _) rfl ?_;exact⟨congrArg (fun b=>Ending.returned (.tuple #[.string b,.int .i64 0])) (bytes_append _ _),hB6.trans (hb6.mono hB6.size)⟩
end
section
open Go.Lib Go.Proofs.Tryz Go.RowKit Go.Shelf Go.Sort CH
attribute [local irreducible] wpQuiet
theorem Cut {s:List UInt8} (h:s.length<=30):(iC s).length<=30:=by
 unfold iC;split;·simp
 ·exact h
theorem Fig (a:CH.Act) (s:fF) (w:ZB) (h:cu w w a s) (hu:CH.unused a=true) (hk:a.kind=6) (hok:bK a.holding=true) : ZE prog 39 #[.agg (Al a s).toArray] w (Ret w (.tuple #[.string ⟨(CH.join [32] ([([104,111,108,100,105,110,103]:List UInt8),a.holding.id,a.holding.company,a.holding.holder,iC a.holding.ah,iC a.holding.aA,dh a.holding.capital,dh a.holding.bM,dh a.holding.start,dh a.holding.stop]++a.holding.joint)++[59]).toArray⟩,.int .i64 0])):=by
 have AL:=Aa fun (W:ZB) (hb:Below w w W)=>J2 a s W ((h.below hb nR).mono hb.size) hu oM;have P:=Aa fun (W:ZB) (b:Nat) (hr:W.rangeAt b 0 (Al a s))=>Ek hr;rw [hk] at P;have V:=Aa fun (g:Nat) (W:ZB) (hb:Below w w W) (hr:W.rangeAt g 0 (A4 a.holding s.vj)) (hg:g<W.heap.size)=>S9 a.holding s.vj g W hr hg ((h.hj.below hb nR).mono hb.size) hok;have HJ:=Aa fun (W:ZB) (hb:Below w w W)=>h.hj.below hb nR;have H:=Rm hok;have hst:-1<=a.holding.stop/\a.holding.stop<=100000:=by have:=H.en;omega
 have D1:=Aa fun (W:ZB)=>Cf a.holding.capital W (by have:=H.cap;omega) (by have:=H.cap;omega);have D2:=Aa fun (W:ZB)=>Cf a.holding.bM W (by have:=H.vot;omega) (by have:=H.vot;omega);have D3:=Aa fun (W:ZB)=>Cf a.holding.start W (by have:=H.st;omega) (by have:=H.st;omega);have D4:=Aa fun (W:ZB)=>Cf a.holding.stop W oM oM;have E1:=Aa fun (W:ZB)=>Sf a.holding.ah W;have E2:=Aa fun (W:ZB)=>Sf a.holding.aA W;have i0:(prog.info? 69).map (·.size)=some (Al a s).length:=kR;have i1:(prog.info? 55).map (·.size)=some (A4 a.holding s.vj).length:=kR;have hone:∀ v∈A4 a.holding s.vj,v.oneCell'=true:=fun v hv=>Cq h v (by unfold Al;exact List.mem_cons_of_mem _ (List.mem_append_right _ (List.mem_append_right _ (List.mem_append_right _ (List.mem_append_left _ hv)))));have dl:∀ n:Int,-1<=n->n<=1000000000->(dh n).length<=30:=fun n h0 h1=>by
  unfold dh;split;·simp
  ·exact Ag (Lib.itoa_length_le n oM oM) oM
 have nl:a.holding.ah.length<=30:=by
  rcases H.nom with e|e;·rw [e];simp
  ·have:=(A9 e.1).2;omega
 have pl:a.holding.aA.length<=30:=by
  rcases H.wS with e|e;·rw [e];simp
  ·have:=(A9 e).2;omega
 have hjl:(CH.join [32] ([([104,111,108,100,105,110,103]:List UInt8),a.holding.id,a.holding.company,a.holding.holder,iC a.holding.ah,iC a.holding.aA,dh a.holding.capital,dh a.holding.bM,dh a.holding.start,dh a.holding.stop]++a.holding.joint)).length<=10000:=by
  have hj:=K6 [32] 30 ([([104,111,108,100,105,110,103]:List UInt8),a.holding.id,a.holding.company,a.holding.holder,iC a.holding.ah,iC a.holding.aA,dh a.holding.capital,dh a.holding.bM,dh a.holding.start,dh a.holding.stop]++a.holding.joint) (fun l hl=>by
   rcases Dp.1 hl with hl|hl
   ·simp only [A8,Ba,Dh] at hl;rcases hl with rfl|rfl|rfl|rfl|rfl|rfl|rfl|rfl|rfl|rfl;·decide
    ·have:=(A9 H.id).2;omega
    ·have:=(A9 H.company).2;omega
    ·have:=(A9 H.holder).2;omega
    ·exact Cut nl
    ·exact Cut pl
    ·have:=H.cap;exact dl _ oM oM
    ·have:=H.vot;exact dl _ oM oM
    ·have:=H.st;exact dl _ oM oM
    ·exact dl _ oM oM
   ·exact Ag (A9 (H.jn l hl)).2 oM)
  have hj4:=H.j4;simp only [Aj,Ar,Bo] at hj ⊢;omega
 have hns:=H.j4;obtain⟨aj,cj,ej,_,_⟩:=h.hj.form;have hcells:A4 a.holding s.vj=[↑a.holding.id,↑a.holding.company,↑a.holding.holder,↑a.holding.ah,↑a.holding.aA,.slice aj a.holding.joint.length cj,↑a.holding.capital,↑a.holding.bM,↑a.holding.start,↑a.holding.stop]:=by unfold A4;rw [ej];first|rfl|skip
 rw [ej] at HJ;clear h hu ej H hst dl nl pl hok;generalize dh a.holding.capital=d1 at *;generalize dh a.holding.bM=d2 at *;generalize dh a.holding.start=d3 at *;generalize dh a.holding.stop=d4 at *;generalize iC a.holding.ah=e1 at *;generalize iC a.holding.aA=e2 at *;generalize hjs:a.holding.joint=js at *;clear hjs;obtain⟨R,hR⟩:∃ R,Hid (CH.join [32] ([([104,111,108,100,105,110,103]:List UInt8),a.holding.id,a.holding.company,a.holding.holder,e1,e2,d1,d2,d3,d4]++js)=R):=⟨_,Aa rfl⟩
 have hRl:R.length<=10000:=by rw [<- hR.out];exact hjl
 rw [hR.out];obtain⟨NJ,hNJ⟩:∃ NJ,js.length=NJ:=⟨_,rfl⟩
 rw [hNJ] at hcells HJ;generalize Al a s=C at *;generalize A4 a.holding s.vj=C1 at *;replace hcells:=Aa hcells;have hr0:=Aa (B6 w C 69);have hB0:=Aa ((Ac _ w).alloc nR (.cells C.toArray 69));have hl7:C1.length=10:=by rw [hcells.out];rfl
 replace hl7:=Aa hl7;replace hjl:=Aa hjl;generalize a.holding.id=s1 at *;generalize a.holding.company=s2 at *;generalize a.holding.holder=s3 at *;generalize a.holding.ah=s4 at *;generalize a.holding.aA=s5 at *;generalize a.holding.capital=n1 at *;generalize a.holding.bM=n2 at *;generalize a.holding.start=n3 at *;generalize a.holding.stop=n4 at *;go_enter func39,ntmps39;go_wp2_with (refine Bh rfl 69 _ rfl w 0 rfl C _ hr0.out underlying69 rfl i0 ?_)
 refine (AL.out _ hB0.out).mono ?_;rintro e w1 ⟨rfl,hb1⟩;have hB1:=hB0.out.trans (hb1.mono hB0.out.size);have PP:=P.out w1 _ (B9 hr0.out hb1 sM);have q0:=PP.1;have r1:=Aa PP.2.2.2.2.1;have hn1:=Aa (B6 w1 C1 55);clear PP P AL;have zJ:=hl7.out;go_wp2_with (first|refine Bh rfl 55 _ rfl w (0+25) rfl C1 _ r1.out underlying55 rfl i1 ?_|refine Ca rfl 55 _ _ rfl C1 rfl rfl (by rw [hl7.out];rfl) i1 hone ?_|refine Bh rfl 55 _ rfl w1 0 rfl C1 _ hn1.out underlying55 rfl i1 ?_)
 rw [Vw C1 _ (by rw [zJ];rfl)];clear zJ hone;have hB2:=hB1.alloc hB1.size (.cells C1.toArray 55);have hB3:=hB2.alloc hB2.size (.cells C1.toArray 55);have hg2:(w1.alloc (.cells C1.toArray 55)).rangeAt w1.heap.size 0 C1:=hn1.out;have hrg:((w1.alloc (.cells C1.toArray 55)).alloc (.cells C1.toArray 55)).rangeAt (w1.heap.size+1) 0 C1:=by have:=B6 (w1.alloc (.cells C1.toArray 55)) C1 55;rwa [Cc] at this
 have hgs:w1.heap.size+1<((w1.alloc (.cells C1.toArray 55)).alloc (.cells C1.toArray 55)).heap.size:=sM;have hra:=Ds hn1.out (.cells C1.toArray 55);generalize (w1.alloc (.cells C1.toArray 55)).alloc (.cells C1.toArray 55)=Wl at *;have hlt1:w1.heap.size<Wl.heap.size:=oM;have K:=Aa fun (W':ZB) (hb:Below Wl Wl W') (j:Nat) (u:ZC) (hj:C1[j]?=some u)=>(show W'.cell? ⟨w1,j,none⟩=some u from by have:=B9 hra hb hlt1 j u hj;rwa [Bl] at this)
 rw [hcells.out] at K;refine (V.out (w1+1) Wl hB3 hrg hgs).mono ?_;rintro e w2 ⟨rfl,hb2⟩;replace hB3:=hB3.trans (hb2.mono hB3.size);clear V q0 r1 i0 hr0 hg2 hrg hgs hra hn1;have x:=K.out w2 hb2;have x0:=x 0 _ rfl;have x1:=x 1 _ rfl;have x2:=x 2 _ rfl;have x3:=x 3 _ rfl;have x4:=x 4 _ rfl;have x6:=x 6 _ rfl;have x7:=x 7 _ rfl;have x8:=x 8 _ rfl;have x9:=x 9 _ rfl;have y0:=@Ae _ _ _ x0;have y1:=@Ae _ _ _ x1;have y2:=@Ae _ _ _ x2;have y3:=@Ae _ _ _ x3;have y4:=@Ae _ _ _ x4;have y6:=@Ae _ _ _ x6;have y7:=@Ae _ _ _ x7;have y8:=@Ae _ _ _ x8;have y9:=@Ae _ _ _ x9;clear x;go_wp2_with fail;refine G0 24 kR kR ?_;simp only [I5,H7,J4,I7];repeat (quiet_step (first|(with_reducible exact Bj (D1.out _))|(with_reducible exact Bj (D2.out _))|(with_reducible exact Bj (D3.out _))|(with_reducible exact Bj (D4.out _))|(with_reducible exact Bj (E1.out _))|(with_reducible exact Bj (E2.out _))))
 refine C9 ?_;intro wq hbq;replace hbq:=At hbq;clear y0 y1 y2 y3 y4 y6 y7 y8 y9 x0 x1 x2 x3 x4 x6 x7 x8 x9;have hbw:=hb2.trans (hbq.mono hb2.size);have hBq:=hB3.trans (hbq.mono hB3.size);have hO:=Ha wq [([104,111,108,100,105,110,103]:List UInt8),s1,s2,s3,e1,e2,d1,d2,d3,d4] sM;have hS0:Below wq wq (wq.alloc (.cells ([([104,111,108,100,105,110,103]:List UInt8),s1,s2,s3,e1,e2,d1,d2,d3,d4].map ay).toArray 9)):=(Ac _ wq).alloc nR _;simp only [Ew,Hz,ay,Ar,Bo,Bl,Nat.reduceAdd] at hO hS0;have x5:=K.out _ (hbw.trans (hS0.mono hbw.size)) 5 _ rfl;have hJ:=HJ.out _ (hBq.trans (hS0.mono hBq.size));have hsz:wq.heap.size<=(wq.alloc (.cells #[.string ⟨[104,111,108,100,105,110,103].toArray⟩,↑s1,↑s2,↑s3,↑e1,↑e2,↑d1,↑d2,↑d3,↑d4] 9)).heap.size:=hS0.size;replace hO:=Aa hO;replace hS0:=Aa hS0;replace hJ:=Aa hJ;go_wp2_with (at_builtin;refine Mq rfl _ _ rfl wq _ [([104,111,108,100,105,110,103]:List UInt8),s1,s2,s3,e1,e2,d1,d2,d3,d4] rfl hO.out w _ js rfl hJ.out (by simp;omega) hsz ?_)
 intro v5 w5 hO5 hg5 _;have hB5:Below wq wq w5:=hS0.out.grown hg5 hsz (fun j hj=>(D7 hO.out j hj).1);have hB6:=hBq.trans (hB5.mono hBq.size);have hR2:=hR.out;rw [Dq,Dq,Dq,Dq,Dq,Dq,Dq,Dq,Dq,Dq,Dn] at hR2;have JJ:=Aa (O0 v5 _ w5 hO5.strs (by rw [hR2];omega));rw [hR2] at JJ;clear hR2;obtain⟨a5,c5,rfl,_,_,_⟩:=hO5.form;clear hO5 hg5 hB5 hO hS0 hJ x5 hsz hbq hbw;generalize List.length (([104,111,108,100,105,110,103]:List UInt8)::s1::s2::s3::e1::e2::d1::d2::d3::d4::js)=n5 at *;have hq:¬ 9223372036854775807<R.length+1:=oM;go_wp2_with fail;refine JJ.out.mono ?_;rintro e w6 ⟨rfl,hb6⟩;clear JJ;go_wp2;refine Au (Bc rfl _ _ _) rfl ?_;exact⟨congrArg (fun b=>Ending.returned (.tuple #[.string b,.int .i64 0])) (bytes_append _ _),hB6.trans (hb6.mono hB6.size)⟩
end
section
open Go.Lib Go.Proofs.Tryz Go.RowKit Go.Shelf Go.Sort CH
theorem Qo (n:Int):(CH.Word.int n).texts=[dh n]:=by show (if n = -1 then _ else _)=_;unfold dh;split <;> rfl
theorem Qn (s:List UInt8):(CH.Word.str s).texts=[iC s]:=by
 show [if s=[] then _ else _]=_;unfold iC;by_cases h:s=[]
 ·rw [Aw h,Aw (by simpa using h)]
 ·rw [Ak h,Ak (by simpa using h)]
theorem Hb2 (l:List (List UInt8)):(CH.Word.strs l).texts=l:=rfl
theorem Hc {s:List UInt8} (h:1<=s.length):iC s=s:=by unfold iC;rw [Ak];intro e;simp only [Dl] at e;rw [e] at h;simp at h
theorem Hxk (a:CH.Act) (s:fF) (w:ZB) (t:List UInt8) (h:fM w w a s) (ht:aU a=some t) : ZE prog 39 #[.agg (Al a s).toArray] w (Ret w (.tuple #[↑t,.int .i64 0])):=by
 have hlen:=Mr ht h;unfold aU at ht;split at ht;·cases ht
 rename_i hu;have hu:CH.unused a=true:=by simpa using hu
 have hr:=h.raw;split at ht
 ·rename_i hk;cases hc:bJ a.change with
  |none=>rw [hc] at ht;cases ht
  |some ct =>rw [hc] at ht;cases ht;have hS:=h.small.change.entry.names;refine Fm8 a s w ct hr hu hk (fun W hb=>Zl a.change s.vn W ct ((h.names.below hb nR).mono hb.size) hS hc) ?_;simp only [Aj] at hlen;omega
 split at ht
 ·rename_i hk;cases hc:dn a.measure with
  |none=>rw [hc] at ht;cases ht
  |some ct =>rw [hc] at ht;cases ht;refine Fl8 a s w ct hr hu hk (fun W hb=>Xf a.measure s.vk W ct (A7.mono hb.size _ _ (A7.below hb nR _ _ h.meas.kids)) h.meas.short hc) ?_;simp only [Aj] at hlen;omega
 split at ht
 ·rename_i hk;split at ht
  ·rename_i hok;cases ht;have:=Fix a s w hr hu hk hok;have hid:CH.isName a.licence.id=true:=by unfold aP at hok;simp only [Am] at hok;exact hok.1.1.1.1.1.1
   unfold CH.words;simp only [Ep,G7,Qo,Qn,Hb2,Hc (A9 hid).1,Hc (s:=([108,105,99,101,110,99,101]:List UInt8)) dC,Gw];exact this
  ·cases ht
 split at ht
 ·rename_i hk;split at ht;·rename_i hok;cases ht;have:=Fig a s w hr hu hk hok;have H:=Rm hok;unfold CH.words;simp only [Ep,G7,Qo,Qn,Hb2,Hc (A9 H.id).1,Hc (s:=([104,111,108,100,105,110,103]:List UInt8)) dC,Hc (A9 H.company).1,Hc (A9 H.holder).1,Gw];exact this
  ·cases ht
 by_cases hk:a.kind=5\/a.kind=3\/a.kind=7
 ·rw [Aw hk] at ht;by_cases hok:(CH.ident a.id&&CH.within a.n (if a.kind=5 then 144001439 else 100000))=true
  ·rw [Aw hok] at ht;cases ht;rw [Am] at hok;have hn:=ig hok.1;have hw:=hok.2;unfold CH.within at hw;rw [Am,Bq,Bq] at hw;have hdn:dh a.n=ZK a.n:=by unfold dh;rw [if_neg oM]
   have e1:=Hc (A9 hn).1;rcases hk with e|e|e
   ·have:=Fit a s w hr hu e hn hw.1 (by have:=hw.2;rw [Aw e] at this;exact this);have hx:CH.words [.str (jc a.kind),.str a.id,.int a.n]=([114,101,118,111,107,101]:List UInt8)++[32]++a.id++[32]++ZK a.n:=by rw [e,show jc 5=([114,101,118,111,107,101]:List UInt8) from rfl];unfold CH.words;simp only [Ep,G7,Qo,Qn,e1,hdn,Hc (s:=([114,101,118,111,107,101]:List UInt8)) dC];simp [CH.join]
    rw [hx];exact this
   ·have:=Flb a s w hr hu e hn hw.1 (by have:=hw.2;rw [Ak oM] at this;exact this);have hx:CH.words [.str (jc a.kind),.str a.id,.int a.n]=([114,101,112,101,97,108]:List UInt8)++[32]++a.id++[32]++ZK a.n:=by rw [e,show jc 3=([114,101,112,101,97,108]:List UInt8) from rfl];unfold CH.words;simp only [Ep,G7,Qo,Qn,e1,hdn,Hc (s:=([114,101,112,101,97,108]:List UInt8)) dC];simp [CH.join]
    rw [hx];exact this
   ·have:=Ffi a s w hr hu e hn hw.1 (by have:=hw.2;rw [Ak oM] at this;exact this);have hx:CH.words [.str (jc a.kind),.str a.id,.int a.n]=([101,110,100]:List UInt8)++[32]++a.id++[32]++ZK a.n:=by rw [e,show jc 7=([101,110,100]:List UInt8) from rfl];unfold CH.words;simp only [Ep,G7,Qo,Qn,e1,hdn,Hc (s:=([101,110,100]:List UInt8)) dC];simp [CH.join]
    rw [hx];exact this
  ·rw [Ak hok] at ht;cases ht
 ·rw [Ak hk] at ht;cases ht
end
section
open Go.Lib Go.Proofs.Tryz Go.RowKit Go.Shelf Go.Sort CH
attribute [local irreducible] wpQuiet
theorem I10 {v:CH.Version} {t:List UInt8} (h:CH.bare v=some t):(0<=v.authority/\v.authority<6/\1<=v.number/\v.number<=200/\0<=v.pos/\v.pos<=144001439/\v.acts.length<=40) /\ (v.number=1/\v.prev=[]\/v.number≠1/\v.prev≠[]/\aG v.prev=true)/\(∀ a∈v.acts,(aU a).isSome=true)/\t=CH.words (G1 v)++[10]++v.acts.flatMap Cl:=by
 rw [Uc] at h;split at h;·cases h
 ·rename_i hc;simp only [Dw,Ea,Ky,Ii,Am,Bq,bne_iff_ne,ne_eq,Decidable.not_not,not_and] at hc;obtain⟨⟨⟨⟨⟨⟨⟨⟨a1,a2⟩,a3⟩,a4⟩,a5⟩,a6⟩,a7⟩,b⟩,c⟩:=hc;have hall:∀ a∈v.acts,(aU a).isSome=true:=fun a ha=>by
   cases hx:aU a with
   |some _=>rfl
   |none=>rw [Mb hx _ ha] at h;cases h
  rw [Ma _ hall] at h;cases h;refine⟨⟨a1,a2,a3,a4,a5,a6,oM⟩,?_,hall,rfl⟩;by_cases e:v.number=1;·left;rw [e] at b;exact⟨e,by simpa using b.symm⟩
  ·right;have hn:(v.number==1)=false:=by simpa using e
   rw [hn] at b;have hp:v.prev≠[]:=by simpa using b.symm
   exact⟨e,hp,c hp⟩
theorem Jul (l:List CH.Act) (k:Nat) (x:CH.Act) (h:l[k]?=some x):(l.take (k+1)).flatMap Cl=(l.take k).flatMap Cl++Cl x:=by rw [Eo,h,Gv,Ik];simp
theorem U1 (v:CH.Version) (s:bZ) (w:ZB) (t:List UInt8) (h:aO w w v s) (hb:CH.bare v=some t) : ZE prog 12 #[.agg (An v s).toArray] w (Ret w (.tuple #[↑t,.bool true])):=by
 obtain⟨⟨a1,a2,a3,a4,a5,a6,a7⟩,hp,hall,ht⟩:=I10 hb;have hwl:=Q3 h.small;have hw:CH.words (G1 v)=CH.join [32] [([118,101,114,115,105,111,110]:List UInt8),dh v.authority,dh v.number,dh v.pos,iC v.prev]:=by unfold CH.words G1;simp only [Ep,G7,Qo,Qn,Hc (s:=([118,101,114,115,105,111,110]:List UInt8)) dC];rfl
 rw [hw] at ht hwl;have D1:=Aa fun (W:ZB)=>Cf v.authority W oM oM;have D2:=Aa fun (W:ZB)=>Cf v.number W oM oM;have D3:=Aa fun (W:ZB)=>Cf v.pos W oM oM;have E1:=Aa fun (W:ZB)=>Sf v.prev W;have IS:=Aa fun (e:aG v.prev=true) (W:ZB)=>(show ZE prog 35 #[↑v.prev] W (Ret W (.bool true)) from by have:=Bsu v.prev W (by have:=h.small.prev;omega);rwa [e] at this)
 obtain⟨aa,ca,ea,hla,hca,hna⟩:=h.acts;obtain⟨b1,c1,f1,_,_⟩:=h.sig.form;obtain⟨b2,c2,f2,_,_⟩:=h.path.form;have AC:=Aa fun (k:Nat) (x:CH.Act) (hk:v.acts[k]?=some x) (sx:fF) (W:ZB) (hx:fM W W x sx)=>(show ∃ tx:List UInt8,Cl x=tx++[10]/\tx.length<=100000100/\ZE prog 39 #[.agg (Al x sx).toArray] W (Ret W (.tuple #[↑tx,.int .i64 0])) from by obtain⟨tx,htx⟩:=Option.isSome_iff_exists.1 (hall x (Ap hk));exact⟨tx,Mz htx,Mr htx hx,Hxk x sx W tx hx htx⟩)
 replace hna:=Aa hna;have q1:ZH (v.authority<0)=false:=Aq oM;have q2:ZH (6<=v.authority)=false:=Aq oM;have q3:ZH (v.number<1)=false:=Aq oM;have q4:ZH (200<v.number)=false:=Aq oM;have q5:ZH (v.pos<0)=false:=Aq oM;have q6:ZH (144001439<v.pos)=false:=Aq oM;have qB:v.number=1/\v.prev=[]\/(v.number==1)=false/\ZH (1<v.number)=true/\1<=v.prev.length/\aG v.prev=true:=by
  rcases hp with e|⟨e1,e2,e3⟩;·exact .inl e
  ·refine .inr ⟨by simpa using e1,Az oM,?_,e3⟩;rcases Nat.eq_zero_or_pos v.prev.length with h0|h0;·exact absurd (Df.1 h0) e2
   ·exact h0
 clear h hp hall hw a1 a2 a3 a4 a5 a6 hb;dsimp only [An,ay,aJ];rw [ea,f1,f2];clear ea f1 f2;generalize v.sel.sig.length=m1 at *;generalize v.sel.path.length=m2 at *;generalize dh v.authority=d1 at *;generalize dh v.number=d2 at *;generalize dh v.pos=d3 at *;generalize iC v.prev=d4 at *;generalize v.acts=acs at *;obtain⟨N,hN⟩:∃ N,acs.length=N:=⟨_,rfl⟩
 rw [hN] at hla a7 ⊢;replace hN:=Aa hN;obtain⟨J,hJ⟩:∃ J,Hid (CH.join [32] [([118,101,114,115,105,111,110]:List UInt8),d1,d2,d3,d4]=J):=⟨_,Aa rfl⟩
 rw [hJ.out] at ht hwl;replace ht:=Aa ht;have q7:ZH ((40:Int)<(N:Int))=false:=Aq oM;generalize v.sel.index=ix at *;have hB0:=Aa fun o=>(Ac _ w).alloc nR o;rcases qB with⟨p1,p2⟩|⟨p1,p2,p3,p4⟩;focus
  rw [p1] at D2 ⊢;rw [p2] at E1 ⊢;clear p1 p2 IS q3 q4;go_enter func12,ntmps12;go_wp2_with fail;have B:=hB0.out;generalize hWd:w.alloc _=W at *;have hBW:Below w w W:=by rw [<- hWd];exact B _
  have K:=Aa (Cp (C:=_) hWd);have hbc:Below W W W:=Ac _ _;clear hWd hB0 B
 rotate_left;focus
  have x1:=Dm p3;have x2:=C6 p3;have IS:=Aa (IS.out p4);clear p4;go_enter func12,ntmps12;go_wp2_with fail;have B:=hB0.out;generalize hWd:w.alloc _=W at *;have hBW:Below w w W:=by rw [<- hWd];exact B _
  have K:=Aa (Cp (C:=_) hWd);clear hWd hB0 B;refine (IS.out _).mono ?_;rintro e w1 ⟨rfl,hbc⟩;go_wp2_with fail
 all_goals
  have x0:=K.out _ hbc 0 _ rfl;have x1:=K.out _ hbc 1 _ rfl;have x2:=K.out _ hbc 2 _ rfl;have x3:=K.out _ hbc 3 _ rfl;have y0:=@Ae _ _ _ x0;have y1:=@Ae _ _ _ x1;have y2:=@Ae _ _ _ x2;have y3:=@Ae _ _ _ x3;refine G0 12 kR kR ?_;simp only [I5,H7,J4,I7];repeat (quiet_step (first|(with_reducible exact Bj (D1.out _))|(with_reducible exact Bj (D2.out _))|(with_reducible exact Bj (D3.out _))|(with_reducible exact Bj (E1.out _))))
  refine C9 ?_;intro wq hbq;replace hbq:=At hbq;clear y0 y1 y2 y3 x0 x1 x2 x3 D1 D2 D3 E1;have hbw:=hbc.trans (hbq.mono hbc.size);have hO:=Ha wq [([118,101,114,115,105,111,110]:List UInt8),d1,d2,d3,d4] sM;have hS0:Below wq wq (wq.alloc (.cells ([([118,101,114,115,105,111,110]:List UInt8),d1,d2,d3,d4].map ay).toArray 9)):=(Ac _ wq).alloc nR _;simp only [Ew,Hz,ay,Ar,Bo,Bl,Nat.reduceAdd] at hO hS0;have JJ:=Aa (O0 _ _ _ hO.strs (by rw [hJ.out];exact hwl));rw [hJ.out] at JJ;have hbx:=hbw.trans (hS0.mono hbw.size);clear hO;have hqj:¬ 9223372036854775807<J.length+1:=oM;go_wp2_with fail;refine JJ.out.mono ?_;rintro e w3 ⟨rfl,hb3⟩;have hb3:=Aa (hbx.trans (hb3.mono hbx.size));clear JJ hS0 hbx hbq hbw hbc;go_wp2_with fail;go_loopw [4,5] (fun sv iv wr=>∃ (k:Nat) (x:List UInt8),k<=N/\iv=↑k/\sv=↑x/\x.length<=2000000+k*100001000/\Hid (x=J++[10]++(acs.take k).flatMap Cl)/\Hid (Below W W wr)) (fun _ iv _=>N - (ZG iv).toNat);case atStart=>exact⟨0,J++[10],Bg _,rfl,by simp only [bytes_append],by simp only [Aj,Ar,Bo];omega,Aa sM,hb3⟩
  case round =>
   obtain⟨k,x,hk,rfl,rfl,hxl,hx,hB⟩:=hrel;have x4:=K.out wr hB.out 4 _ rfl;have hkm:k*100001000<=40*100001000:=Dj _ oM;by_cases hlt:k<N
   ·obtain⟨b,off,rfl,hbl,hcells⟩:=hna.out (by intro h;have:=hN.out;simp [h] at this;omega);obtain⟨y,hy⟩:∃ y,acs[k]?=some y:=⟨_,Ad (by rw [hN.out];exact hlt)⟩
    obtain⟨sy,hc,hat⟩:=hcells k y hy;have hBw:=hBW.trans (hB.out.mono hBW.size);have hrg:=Aa (show wr.rangeAt b (off+k*37) (Al y sy) from fun j u hj=>(hBw.cell (p:=⟨b,off+k*37+j,none⟩) hbl).trans (hc j u hj));obtain⟨ty,ety,lty,CT⟩:=AC.out k y hy sy wr ((hat.below hBw nR).mono hBw.size);have hsn:=Jul acs k y hy;have ET:(prog.info? 69).map (·.size)=some (Al y sy).length:=kR;have hnx:Hid (x++(ty++[10])=J++[10]++(acs.take (k+1)).flatMap Cl):=Aa (by rw [hsn,ety,hx.out];simp);clear hcells hc hat hsn ety hy hx hBw;generalize Al y sy=C at *;replace CT:=Aa CT;have z0:(0:Int)<=(k:Int):=oM;have zk:((k:Int)).toNat=k:=oM;have hk':(k:Int)<(N:Int):=oM;have hq1:¬ 9223372036854775807<ty.length+1:=oM;have hq2:¬ 9223372036854775807<x.length+(ty.length+1):=oM;go_wp2_with (refine Bh rfl 69 _ rfl b (off+k*37) rfl C _ hrg.out underlying69 rfl ET ?_)
    refine CT.out.mono ?_;rintro e w4 ⟨rfl,hb4⟩;have hB4:=Aa (hB.out.trans (hb4.mono hB.out.size));clear CT hrg x4 hB hb4;go_wp2_with fail;refine⟨⟨k+1,x++(ty++[10]),oM,by go_num,by simp only [bytes_append],by simp only [Aj,Ar,Bo];omega,hnx,hB4⟩,by simp [ZG];omega⟩
   ·obtain rfl:k=N:=oM;have hxt:x=t:=by rw [hx.out,ht.out,Di (by rw [hN.out];exact Bv _)]
    subst hxt;clear hx ht;go_wp2;refine Au (Bc rfl _ _ _) rfl ?_;exact⟨rfl,hBW.trans (hB.out.mono hBW.size)⟩
end
section
open Go.Lib Go.Proofs.Tryz Go.RowKit Go.Shelf Go.Sort CH
attribute [local irreducible] wpQuiet
theorem Kg.kept {B:Nat} {w w':ZB} {v:ZC} {ls:List CH.Version} (h:Kg B w v ls) (hc:Cells w w'):Kg B w' v ls:=by obtain⟨a,cap,h1,h2,h3,h4⟩:=h;refine⟨a,cap,h1,h2,h3,fun hne=>?_⟩;obtain⟨b,off,e,hlt,hx⟩:=h4 hne;refine⟨b,off,e,hlt,fun j x hj=>?_⟩;obtain⟨s,c1,c2⟩:=hx j x hj;exact⟨s,fun i u hi=>hc _ _ (c1 i u hi),c2.kept hc⟩
theorem Rr (w:ZB):ZE prog 8 #[.pointer none] w (fun e w'=>e=.returned (.slice none 0 0)/\w=w'):=by go_enter func8,ntmps8;go_wp2_with fail;go_ret;exact⟨rfl,rfl⟩
theorem E3a (x y:CH.Version) (s s':bZ) (w:ZB) (h:gV w w x s) (h':gV w w y s') (hne:x.authority≠y.authority\/x.number≠y.number) : ZE prog 11 #[.agg (An x s).toArray,.agg (An y s').toArray] w (Ret w (.bool false)):=by
 have hB0:=Aa fun o o2=>((Ac _ w).alloc nR o).alloc sM o2;obtain⟨va,v1,v2⟩:=s;obtain⟨va',v1',v2'⟩:=s';obtain⟨_,_,e1,_,_,_⟩:=h.acts;obtain⟨_,_,e2,_,_⟩:=h.sig.form;obtain⟨_,_,e3,_,_⟩:=h.path.form;obtain⟨_,_,e4,_,_,_⟩:=h'.acts;obtain⟨_,_,e5,_,_⟩:=h'.sig.form;obtain⟨_,_,e6,_,_⟩:=h'.path.form;dsimp only at e1 e2 e3 e4 e5 e6;subst e1 e2 e3 e4 e5 e6;clear h h';dsimp only [An,ay,aJ] at *;by_cases ha:x.authority=y.authority
 ·have q1:(x.number != y.number)=true:=by simp;omega
  rw [ha];clear ha hne;go_enter func11,ntmps11;go_wp2;go_ret;exact⟨rfl,hB0.out _ _⟩
 ·have q1:(x.authority != y.authority)=true:=by simpa using ha
  clear ha hne;go_enter func11,ntmps11;go_wp2;go_ret;exact⟨rfl,hB0.out _ _⟩
end
end Go.Proofs.YthapckjpmkkkpaaGreatDoor

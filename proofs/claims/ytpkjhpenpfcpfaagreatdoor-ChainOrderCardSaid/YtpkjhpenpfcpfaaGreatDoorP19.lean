/-
  ChainOrder: the proof, part 20 of 28.
-/
import Derived.Test.YtpkjhpenpfcpfaaGreatDoorP18
set_option linter.unusedSimpArgs false
set_option linter.unusedVariables false
set_option maxHeartbeats 40000000
set_option maxRecDepth 100000
open Go renaming World -> ZB, Value -> ZC, Calls -> ZE
open Go.Act renaming put -> ZF
open Go.RowKit renaming intOf -> ZG
open Decidable renaming decide -> ZH
open Go.Lib renaming itoa -> ZK
namespace Go.Proofs.YtpkjhpenpfcpfaaGreatDoor
section
open Go.Lib Go.Proofs.Tryz Go.RowKit Go.Shelf Go.Sort CH
theorem I47 (c:UInt8):CH.isHex c=(ZH ((48:Int)<=(c.toNat:Int))&&ZH ((c.toNat:Int)<=57)||ZH ((97:Int)<=(c.toNat:Int))&&ZH ((c.toNat:Int)<=102)):=by
 have h:∀ n:Fin 256,CH.isHex (UInt8.ofNat n.val)=(ZH ((48:Int)<=(n.val:Int))&&ZH ((n.val:Int)<=57)||ZH ((97:Int)<=(n.val:Int))&&ZH ((n.val:Int)<=102)):=by decide +kernel
 have:=h ⟨c.toNat,Ew c⟩;simpa using this
theorem Xa (c:UInt8) (w:ZB):ZE prog 99 #[.int .u8 c.toNat] w (fun e w'=>Below w w w'/\∃ d:Int,e=.returned ↑d/\ZH (d<0)=!CH.isHex c):=by
 have hc:=Ew c;rw [I47];generalize c.toNat=n at *;by_cases h1:48<=n/\n<=57
 ·have e1:ZH ((48:Int)<=(n:Int))=true:=Ak oM;have e2:ZH ((n:Int)<=57)=true:=Ak oM;have q:IntKind.u8.wrap ((n:Int) - 48)=(n:Int) - 48:=by rw [IntKind.wrap_u8];omega
  have q2:IntKind.i64.wrap ((n:Int) - 48)=(n:Int) - 48:=by rw [IntKind.wrap_i64];omega
  have hd:ZH ((n:Int) - 48<0)=false:=Aq oM;rw [e1,e2];go_enter func99,ntmps99;go_wp2;go_ret;exact⟨Ac _ _,_,rfl,by rw [hd];rfl⟩
 ·by_cases h2:97<=n/\n<=102
  ·have e1:ZH ((48:Int)<=(n:Int))=true:=Ak oM;have e2:ZH ((n:Int)<=57)=false:=Aq oM;have e3:ZH ((97:Int)<=(n:Int))=true:=Ak oM;have e4:ZH ((n:Int)<=102)=true:=Ak oM;have q:IntKind.u8.wrap ((n:Int) - 97)=(n:Int) - 97:=by rw [IntKind.wrap_u8];omega
   have q2:IntKind.i64.wrap ((n:Int) - 97)=(n:Int) - 97:=by rw [IntKind.wrap_i64];omega
   have q3:IntKind.i64.wrap ((n:Int) - 97+10)=(n:Int) - 97+10:=by rw [IntKind.wrap_i64];omega
   have hd:ZH ((n:Int) - 97+10<0)=false:=Aq oM;rw [e1,e2,e3,e4];go_enter func99,ntmps99;go_wp2;go_ret;exact⟨Ac _ _,_,rfl,by rw [hd];rfl⟩
  ·have hx:(ZH ((48:Int)<=(n:Int))&&ZH ((n:Int)<=57)||ZH ((97:Int)<=(n:Int))&&ZH ((n:Int)<=102))=false:=by
    rw [Gt];constructor;·simp;omega
    ·simp;omega
   rw [hx];clear hx;rcases (oM:n<48\/(58<=n/\n<97)\/102<n) with h3|h3|h3;·have e1:ZH ((48:Int)<=(n:Int))=false:=Aq oM;have e3:ZH ((97:Int)<=(n:Int))=false:=Aq oM;exact FD109
   ·have e1:ZH ((48:Int)<=(n:Int))=true:=Ak oM;have e2:ZH ((n:Int)<=57)=false:=Aq oM;have e3:ZH ((97:Int)<=(n:Int))=false:=Aq oM;exact FD109
   ·have e1:ZH ((48:Int)<=(n:Int))=true:=Ak oM;have e2:ZH ((n:Int)<=57)=false:=Aq oM;have e3:ZH ((97:Int)<=(n:Int))=true:=Ak oM;have e4:ZH ((n:Int)<=102)=false:=Aq oM;exact FD109
theorem Uh (s:List UInt8) (w:ZB) (hs:s.length<=9223372036854775807):ZE prog 47 #[↑s] w (Ret w (.bool (aC s))):=by
 obtain⟨R,hR⟩:∃ R,Hid (aC s=R):=⟨_,Aa rfl⟩
 rw [hR.out];have D:=Aa fun (c:UInt8) (W:ZB)=>Xa c W;go_enter func47,ntmps47;go_wp2_with fail;go_loopw [3] (fun i wr=>∃ k:Nat,k<=s.length/\k<=16/\i=↑k/\Hid ((s.take k).all CH.isHex=true)/\Hid (Below w w wr)) (fun i _=>s.length - (ZG i).toNat);case atStart=>exact⟨0,Bd _,oM,rfl,Aa rfl,Aa (Ac _ _)⟩
 case round =>
  obtain⟨k,hk,ES,rfl,hI,hB⟩:=hrel;by_cases hlt:k<s.length
  ·have p1:ZH ((k:Int)<(s.length:Int))=true:=Ak oM;by_cases hlt2:k<16
   ·have p2:ZH ((k:Int)<16)=true:=Ak oM;obtain⟨ch,hch⟩:∃ ch,s[k]?=some ch:=⟨_,Ad hlt⟩
    have hgk:=Lf s k hlt ch hch;have D1:=Aa (D.out ch wr);cases hx:CH.isHex ch with
    |true =>
     have hI2:Hid ((s.take (k+1)).all CH.isHex=true):=Aa (by rw [D6,hch,F7,Io,hI.out,a_Bool_true_and,Jl,Nb,hx];rfl);rw [hx] at D1;replace hch:=Aa hch;clear hI hx;go_wp2_with fail;refine D1.out.mono ?_;rintro e w1 ⟨hb1,d,rfl,hd⟩;rw [Gi] at hd;have hB1:=Aa (hB.out.trans (hb1.mono hB.out.size));go_wp2;go_roundw;case rel=>exact⟨k+1,oM,oM,by go_num,hI2,hB1⟩
     case measure=>simp [ZG];omega
    |false =>
     have hb:R=false:=by rw [<- hR.out];unfold aC;have:s.all CH.isHex=false:=Jr.2 ⟨ch,Aw hch,by simp [hx]⟩;rw [this,Bool.and_false]
     subst hb;rw [hx] at D1;replace hch:=Aa hch;clear hI hx;go_wp2_with fail;refine D1.out.mono ?_;rintro e w1 ⟨hb1,d,rfl,hd⟩;rw [Bool.not_false] at hd;exact FD137
   ·have p2:ZH ((k:Int)<16)=false:=Aq oM;have hb:R=false:=by
     rw [<- hR.out];unfold aC;have:(s.length==16)=false:=by simp;omega
     rw [this,Bool.false_and]
    subst hb;have p3:((s.length:Int)==16)=false:=by simp;omega
    clear hI;exact FD118
  ·obtain rfl:k=s.length:=oM;have hall:=hI.out;rw [Dv] at hall;have hb:((s.length:Int)==16)=R:=by rw [<- hR.out];unfold aC;rw [hall,Ik,Ei,Dz,Dz];omega
   generalize hq:((s.length:Int)==16)=q at *;subst hb;clear hI hall;exact FD118
theorem Tg (n:Int) (w:ZB):ZE prog 165 #[↑n] w (Ret w (.bool (aW n))):=by unfold aW;generalize e1:ZH (0<=n)=b1;generalize e2:ZH (n<=144001439)=b2;cases b1 <;> cases b2;all_goals go_enter func165,ntmps165;go_wp2;go_ret;exact⟨rfl,Ac _ _⟩
theorem Xb (n:Int) (w:ZB):ZE prog 228 #[↑n] w (Ret w (.bool (CH.within n 100000))):=by unfold CH.within;generalize e1:ZH (0<=n)=b1;generalize e2:ZH (n<=100000)=b2;cases b1 <;> cases b2;all_goals go_enter func228,ntmps228;go_wp2;go_ret;exact⟨rfl,Ac _ _⟩
def ig (s:List UInt8):List UInt8:=if s==[] then [45] else s
theorem Th (s:List UInt8) (w:ZB):ZE prog 50 #[↑s] w (Ret w (.string ⟨(ig s).toArray⟩)):=by
 by_cases h:s=[]
 ·subst h;go_enter func50,ntmps50;exact FD29
 ·have hb:(s==[])=false:=by simpa using h
  have he:ig s=s:=by unfold ig;rw [hb];rfl
  rw [he];have hs:((⟨s.toArray⟩:ByteArray)==⟨#[]⟩)=false:=by rw [show (#[]:Array UInt8)=([]:List UInt8).toArray from rfl,Cw];exact hb
  go_enter func50,ntmps50;exact FD29
theorem Nf (sep:List UInt8):∀ (l:List (List UInt8)) (x:List UInt8),CH.join sep (l++[x])=if l=[] then x else CH.join sep l++(sep++x)
 |[],_=>rfl
 |[y],x=>by simp [CH.join]
 |y::z::l,x=>by
  have:=Nf sep (z::l) x
  simp only [Dn,reduceCtorEq,Kr] at this ⊢
  simp only [CH.join]
  rw [this]
  simp
theorem Pi (sep:List UInt8):∀ (l r:List (List UInt8)),(CH.join sep l).length<=(CH.join sep (l++r)).length
 |l,[]=>by rw [Gy];exact Bo _
 |l,x::r=>by
  have h1:=Pi sep (l++[x]) r
  rw [D9,List.singleton_append] at h1
  refine Ag ?_ h1
  rw [Nf]
  split
  ·rename_i e
   rw [e]
   exact Bd _
  ·simp
theorem Ps (v:ZC) (ls:List (List UInt8)) (w:ZB) (hv:Strs w w v ls) (hlen:(CH.join [32] ls).length<=1000000) : ZE prog 48 #[v] w (Ret w (.string ⟨(CH.join [32] ls).toArray⟩)):=by
 obtain⟨a,cap,rfl,hl,hcap,hne⟩:=hv;replace hne:=Aa hne;obtain⟨N,hN⟩:∃ N,ls.length=N:=⟨_,rfl⟩
 rw [hN] at hl ⊢;replace hN:=Aa hN;have HL:=Aa fun (k:Nat)=>Ag (Pi [32] (ls.take k) (ls.drop k)) (by rw [En];exact hlen);obtain⟨R,hR⟩:∃ R,Hid (CH.join [32] ls=R):=⟨_,Aa rfl⟩
 rw [hR.out];go_enter func48,ntmps48;go_wp2_with fail;go_loopw [3,4] (fun s i wr=>∃ (k:Nat) (t:List UInt8),k<=N/\i=↑k/\s=↑t/\t.length<=1000000/\Hid (t=CH.join [32] (ls.take k))/\Hid (Below w w wr)) (fun _ i _=>N - (ZG i).toNat);case atStart=>exact⟨0,[],Bd _,rfl,rfl,sM,Aa rfl,Aa (Ac _ _)⟩
 case round =>
  obtain⟨k,t,hk,rfl,rfl,htl,ht,hBr⟩:=hrel;by_cases hlt:k<N
  ·obtain⟨b,off,rfl,hbl,hcells⟩:=hne.out (by intro h;have:=hN.out;simp [h] at this;omega);obtain⟨l,hl'⟩:∃ l,ls[k]?=some l:=⟨_,Ad (by rw [hN.out];exact hlt)⟩
   have e1:wr.cell? ⟨b,off+k,none⟩=some ↑l:=(hBr.out.cell (p:=⟨b,off+k,none⟩) hbl).trans (hcells k l hl');have hs:=Nf [32] (ls.take k) l;have htk:ls.take k++[l]=ls.take (k+1):=by rw [D6,hl',F7]
   rw [htk] at hs;have hL:=HL.out (k+1);clear hcells hl';have z0:(0:Int)<=(k:Int):=oM;have zk:((k:Int)).toNat=k:=oM;have hk':(k:Int)<(N:Int):=oM;by_cases hk0:k=0
   ·subst hk0;rw [Ia,Ap rfl] at hs;have ht0:t=[]:=by rw [ht.out];rfl
    subst ht0;rw [hs] at hL;have hs':=Aa hs.symm;clear hs ht;rw [Hu] at e1;go_wp2_with fail;refine⟨⟨1,l,oM,by go_num,by first|rfl|(rw [show (⟨#[]⟩:ByteArray)=⟨([]:List UInt8).toArray⟩ from rfl,bytes_append];rfl),hL,hs',hBr⟩,by simp [ZG];omega⟩
   ·have hne0:ls.take k≠[]:=by intro e;have:=congrArg List.length e;rw [Ec,hN.out] at this;simp at this;omega
    rw [Af hne0,<- ht.out] at hs;rw [hs] at hL;have hp:(0:Int)<(k:Int):=oM;have hq:¬ 9223372036854775807<t.length+1+l.length:=by simp only [Aj,Az,Bj] at hL;omega
    have hs':=Aa hs.symm;clear hs ht;go_wp2_with fail;refine⟨⟨k+1,t++([32]++l),oM,by go_num,by rw [show (⟨#[32]⟩:ByteArray)=⟨([32]:List UInt8).toArray⟩ from rfl,bytes_append,bytes_append,D9],hL,hs',hBr⟩,by simp [ZG];omega⟩
  ·obtain rfl:k=N:=oM;have htR:t=R:=by rw [ht.out,<- hR.out,Cc (by rw [hN.out];exact Bo _)]
   subst htR;clear ht;go_wp2;go_ret;exact⟨rfl,hBr.out⟩
theorem Bfp (k:Int) (w:ZB):ZE prog 223 #[↑k] w (fun e w'=>Below w w w'/\∃ t:List UInt8,e=.returned ↑t/\(1<=k/\k<=4->t=CH.title k++[58])):=by
 by_cases h1:k=1;·subst h1;exact FD100
 ·have e1:(k==1)=false:=by simpa using h1
  by_cases h2:k=2;·subst h2;exact FD100
  ·have e2:(k==2)=false:=by simpa using h2
   by_cases h3:k=3;·subst h3;exact FD100
   ·have e3:(k==3)=false:=by simpa using h3
    go_enter func223,ntmps223;go_wp2;go_ret;refine⟨Ac _ _,_,rfl,fun h=>?_⟩;obtain rfl:k=4:=oM;rfl
theorem Ggy (s:List UInt8) (w:ZB):ZE prog 304 #[↑s] w (Ret w (.bool (CH.isKey s))):=by
 by_cases hk:s∈[[111,114],[97,110,100],[110,111,116],[116,114,117,101],[102,97,108,115,101]]
 ·have e:CH.isKey s=true:=by unfold CH.isKey;exact List.contains_iff_mem.2 hk
  rw [e];clear e;simp only [A8,Bc,Dj] at hk;rcases hk with rfl|rfl|rfl|rfl|rfl;all_goals go_enter func304,ntmps304;go_wp2;go_ret;exact⟨rfl,Ac _ _⟩
 ·have e:CH.isKey s=false:=by unfold CH.isKey;rw [<- Bool.not_eq_true];exact fun h=>hk (List.contains_iff_mem.1 h)
  rw [e];clear e;simp only [A8,Bc,Dj,Jy] at hk;obtain⟨k1,k2,k3,k4,k5⟩:=hk;go_enter func304,ntmps304;go_wp2;have q1:(s==[111,114])=false:=by simpa using k1
  have q2:(s==[97,110,100])=false:=by simpa using k2
  have q3:(s==[110,111,116])=false:=by simpa using k3
  have q4:(s==[116,114,117,101])=false:=by simpa using k4
  have q5:(s==[102,97,108,115,101])=false:=by simpa using k5
  rw [q1,q2,q3,q4,q5];go_ret;exact⟨rfl,Ac _ _⟩
end
section
open Go.Lib Go.Proofs.Tryz Go.RowKit Go.Shelf Go.Sort CH
attribute [local irreducible] wpQuiet
theorem Sf {s:List UInt8} (h:CH.isName s=true):1<=s.length/\s.length<=24/\∀ k ch,s[k]?=some ch->CH.tailB ch=true/\(k=0->CH.letterB ch=true):=by
 unfold CH.isName at h;split at h;·cases h
 ·rename_i c l;simp only [Ar,Bl] at h;obtain⟨⟨h1,h2⟩,h3⟩:=h;have ht:CH.tailB c=true:=by unfold CH.tailB;rw [h1];rfl
  refine⟨sM,h3,fun k ch hk=>?_⟩;cases k with
  |zero =>simp only [Fv,Ep] at hk;subst hk;exact⟨ht,fun _=>h1⟩
  |succ k =>simp only [Fz] at hk;exact⟨Dh.1 h2 ch (Aw hk),fun e=>by omega⟩
theorem Ha (s:List UInt8) (w:ZB) (hs:s.length<=4611686018427387904):ZE prog 163 #[↑s] w (Ret w (.bool (CH.isName s))):=by
 have q0:∀ b,(s != []&&ZH (s.length<=24))=b->CH.isName s=(CH.upTo CH.letterB CH.tailB s s.length&&b):=fun b hb=>by rw [CH.isName_eq,hb]
 rcases (oM:s.length=0\/24<s.length\/1<=s.length/\s.length<=24) with h|h|⟨p1,p2⟩;·have hr:=q0 false (by rw [Cb.1 h];rfl);rw [Bool.and_false] at hr;have q1:ZH ((s.length:Int)<1)=true:=Ak oM;rw [hr];clear hr q0;go_enter func163,ntmps163;exact FD29
 ·have hr:=q0 false (by rw [Aq oM,Bool.and_false]);rw [Bool.and_false] at hr;have q1:ZH ((s.length:Int)<1)=false:=Aq oM;have q2:ZH ((24:Int)<(s.length:Int))=true:=Ak oM;rw [hr];clear hr q0;go_enter func163,ntmps163;exact FD29
 have q1:ZH ((s.length:Int)<1)=false:=Aq oM;have q2:ZH ((24:Int)<(s.length:Int))=false:=Aq oM;have hr:=q0 true (by rw [Ak p2,Ik,bne_iff_ne];rintro rfl;simp at p1);rw [Ik] at hr;have hr:=Aa hr;generalize CH.isName s=R at hr ⊢;clear q0 hs;go_enter func163,ntmps163;go_wp2_with fail;go_loopw [3] (fun i wr=>∃ k:Nat,k<=s.length/\i=↑k/\Hid (CH.upTo CH.letterB CH.tailB s k=true)/\wr=w) (fun i _=>s.length - (ZG i).toNat);case atStart=>exact⟨0,Bd _,rfl,Aa (CH.upTo_zero _ _ _),rfl⟩
 case round =>
  obtain⟨k,hk,rfl,hu,rfl⟩:=hrel;by_cases hlt:k<s.length
  ·obtain⟨ch,hch⟩:∃ ch,s[k]?=some ch:=⟨_,Ad hlt⟩
   have hgk:=Lf s k hlt ch hch;have Hch:=Aa hch;clear hch;have hcb:=Ew ch;have good:∀ b:Bool,(if k=0 then CH.letterB ch else CH.tailB ch)=b->(b=true->CH.upTo CH.letterB CH.tailB s (k+1)=true)/\(b=false->R=false):=fun b hb =>⟨fun h=>by rw [CH.upTo_succ _ _ _ _ _ Hch.out,hu.out,hb,h];rfl,fun h=>by rw [hr.out,CH.upTo_false _ _ _ _ _ Hch.out (hb.trans h)]⟩
   have G:=Aa good;clear good;by_cases hk0:k=0
   ·subst hk0;rcases (oM:(0<=ch.toNat/\ch.toNat<=64)\/(65<=ch.toNat/\ch.toNat<=90)\/(91<=ch.toNat/\ch.toNat<=96)\/(97<=ch.toNat/\ch.toNat<=122)\/(123<=ch.toNat/\ch.toNat<=255)) with h|h|h|h|h;all_goals
     cases g97:ZH ((97:Int)<=(ch.toNat:Int)) <;> try (simp at g97;omega)
     cases l122:ZH ((ch.toNat:Int)<=(122:Int)) <;> try (simp at l122;omega)
     cases g65:ZH ((65:Int)<=(ch.toNat:Int)) <;> try (simp at g65;omega)
     cases l90:ZH ((ch.toNat:Int)<=(90:Int)) <;> try (simp at l90;omega)
     cases hv:CH.letterB ch <;> try (simp [CH.letterB,CH.tailB,CH.beq_toNat] at hv;omega)
     first
     |(replace hv:=Aa ((G.out _ ((Ap rfl).trans hv)).1 rfl)
       go_wp2
       go_roundw
       case rel=>exact⟨0+1,oM,by go_num,hv,trivial⟩
       case measure=>simp [ZG];omega)
     |(replace hv:=Aa ((G.out _ ((Ap rfl).trans hv)).2 rfl);go_wp2;go_ret;exact⟨by rw [hv.out];rfl,Ac _ _⟩)
   ·have z0:((k:Int)==0)=false:=by simp;omega
    rcases (oM:(0<=ch.toNat/\ch.toNat<=47)\/(48<=ch.toNat/\ch.toNat<=57)\/(58<=ch.toNat/\ch.toNat<=64)\/(65<=ch.toNat/\ch.toNat<=90)\/(91<=ch.toNat/\ch.toNat<=94)\/(95<=ch.toNat/\ch.toNat<=95)\/(96<=ch.toNat/\ch.toNat<=96)\/(97<=ch.toNat/\ch.toNat<=122)\/(123<=ch.toNat/\ch.toNat<=255)) with h|h|h|h|h|h|h|h|h;all_goals
     cases g97:ZH ((97:Int)<=(ch.toNat:Int)) <;> try (simp at g97;omega)
     cases l122:ZH ((ch.toNat:Int)<=(122:Int)) <;> try (simp at l122;omega)
     cases g65:ZH ((65:Int)<=(ch.toNat:Int)) <;> try (simp at g65;omega)
     cases l90:ZH ((ch.toNat:Int)<=(90:Int)) <;> try (simp at l90;omega)
     cases n95:(ch.toNat:Int) != (95:Int) <;> try (simp at n95;omega)
     cases l48:ZH ((ch.toNat:Int)<(48:Int)) <;> try (simp at l48;omega)
     cases g57:ZH ((57:Int)<(ch.toNat:Int)) <;> try (simp at g57;omega)
     cases hv:CH.tailB ch <;> try (simp [CH.letterB,CH.tailB,CH.beq_toNat] at hv;omega)
     first
     |(replace hv:=Aa ((G.out _ ((Af hk0).trans hv)).1 rfl)
       go_wp2
       go_roundw
       case rel=>exact⟨k+1,oM,by go_num,hv,trivial⟩
       case measure=>simp [ZG];omega)
     |(replace hv:=Aa ((G.out _ ((Af hk0).trans hv)).2 rfl);go_wp2;go_ret;exact⟨by rw [hv.out];rfl,Ac _ _⟩)
  ·obtain rfl:k=s.length:=oM;go_wp2;go_ret;exact⟨by rw [hr.out,hu.out];rfl,Ac _ _⟩
theorem Xi:∀ (l:List (List UInt8)),dW l=true->∀ (j k:Nat) (x y:List UInt8),l[j]?=some x->l[k]?=some y->j<k->(x==y)=false
 |[],_,j,k,x,y,hj,_,_=>by simp at hj
 |z::l,h,0,k+1,x,y,hj,hk,_=>by
  simp only [dW,Ar,Fg,Fv,Fz,Ep] at h hj hk
  subst hj
  rw [<- Bool.not_eq_true,Dz]
  rintro rfl
  have:=h.1
  rw [Il,Df] at this
  exact this (Aw hk)
 |z::l,h,j+1,k+1,x,y,hj,hk,hlt=>by
  simp only [dW,Ar,Fz] at h hj hk
  exact Xi l h.2 j k x y hj hk oM
theorem jI {ls:List (List UInt8)} {k:Nat} (h:aN (ls.take k)=false):aN ls=false:=by rw [<- Bool.not_eq_true] at h ⊢;refine fun e=>h ?_;rw [<- En k ls] at e;exact jW _ _ e
theorem Oz {ls:List (List UInt8)} {j:Nat} {x l:List UInt8} (hx:ls[j]?=some x):(ls.take (j+1)).contains l=((ls.take j).contains l||x==l):=by rw [D6,hx,F7,List.contains_eq_any_beq,List.contains_eq_any_beq,List.any_append,List.any_cons,List.any_nil,Bool.or_false,Bool.beq_comm]
theorem Xs (v:ZC) (ls:List (List UInt8)) (most:Int) (w:ZB) (hv:Strs w w v ls) (hs:∀ x∈ls,x.length<=4611686018427387904) : ZE prog 164 #[v,↑most] w (Ret w (.bool (aN ls&&ZH ((ls.length:Int)<=most)))):=by
 have HN:=Aa fun (k:Nat) (x:List UInt8) (hk:ls[k]?=some x) (W:ZB)=>Ha x W (hs x (Aw hk));obtain⟨R,hR⟩:∃ R,(aN ls&&ZH ((ls.length:Int)<=most))=R:=⟨_,rfl⟩
 have HF:=Aa fun (k:Nat) (x:List UInt8) (hk:ls[k]?=some x) (b:Bool) (hb:(aN (ls.take k)&&(CH.isName x&&!(ls.take k).contains x))=b) =>
  (⟨fun e=>by rw [D6,hk,F7,iQ,hb,e],fun e=>by rw [<- hR,jI (k:=k+1) (by rw [D6,hk,F7,iQ,hb,e])];rfl⟩ :
   (b=true->aN (ls.take (k+1))=true)/\(b=false->R=false))
 have HE:=Aa fun (k:Nat) (hk:ls.length<=k) (h:aN (ls.take k)=true)=>(by rw [<- hR,<- Cc hk,h];simp [Cc hk]:ZH ((ls.length:Int)<=most)=R)
 rw [hR];clear hR hs;obtain⟨a,cap,rfl,hl,hcap,hne⟩:=hv;replace hne:=Aa hne;obtain⟨N,hN⟩:∃ N,ls.length=N:=⟨_,rfl⟩
 rw [hN] at hl HE ⊢;replace hN:=Aa hN;go_enter func164,ntmps164;go_wp2_with fail;go_loopw [5] (fun i wr=>∃ k:Nat,k<=N/\i=↑k/\Hid (aN (ls.take k)=true)/\Hid (Below w w wr)) (fun i _=>N - (ZG i).toNat);case atStart=>exact⟨0,Bd _,rfl,Aa rfl,Aa (Ac _ _)⟩
 case round =>
  obtain⟨k,hk,rfl,hT,hB⟩:=hrel;by_cases hlt:k<N
  ·obtain⟨b,off,rfl,hbl,hcells⟩:=hne.out (by intro h;have:=hN.out;simp [h] at this;omega);obtain⟨l,hl'⟩:∃ l,ls[k]?=some l:=⟨_,Ad (by rw [hN.out];exact hlt)⟩
   have e1:wr.cell? ⟨b,off+k,none⟩=some ↑l:=(hB.out.cell (p:=⟨b,off+k,none⟩) hbl).trans (hcells k l hl');have z0:(0:Int)<=(k:Int):=oM;have zk:((k:Int)).toNat=k:=oM;have hk':(k:Int)<(N:Int):=oM;have C:=Aa (HN.out k l hl');replace hcells:=Aa hcells;have HFk:=Aa (HF.out k l hl');rw [hT.out,a_Bool_true_and] at HFk;replace hl':=Aa hl';cases hb:CH.isName l with
   |false =>rw [hb] at C HFk;have hr:=Aa ((HFk.out _ rfl).2 rfl);replace C:=Aa C.out;clear HFk;go_wp2_with fail;refine (C.out _).mono ?_;rintro e w1 ⟨rfl,hb1⟩;have hB1:=Aa (hB.out.trans (hb1.mono hB.out.size));clear C e1 hB;go_wp2;go_ret;exact⟨by rw [hr.out];rfl,hB1.out⟩
   |true =>
   rw [hb] at C HFk;rw [a_Bool_true_and] at HFk;replace HFk:=Aa HFk.out;replace C:=Aa C.out;go_wp2_with fail;refine (C.out _).mono ?_;rintro e w1 ⟨rfl,hb1⟩;have hB1:=Aa (hB.out.trans (hb1.mono hB.out.size));clear C e1 hB;go_wp2_with fail;go_loopw [6] (fun i wr=>∃ j:Nat,j<=k/\i=↑j/\Hid ((ls.take j).contains l=false)/\Hid (Below w w wr)) (fun i _=>k - (ZG i).toNat);case atStart=>exact⟨0,Bd _,rfl,Aa rfl,hB1⟩
   case round =>
    obtain⟨j,hj,rfl,hC,hB⟩:=hrel;by_cases hlj:j<k
    ·obtain⟨x,hx⟩:∃ x,ls[j]?=some x:=⟨_,Ad (by rw [hN.out];omega)⟩
     have e1:=(hB.out.cell (p:=⟨b,off+j,none⟩) hbl).trans (hcells.out j x hx);have e2:=(hB.out.cell (p:=⟨b,off+k,none⟩) hbl).trans (hcells.out k l hl'.out);have g1:=@Ae _ _ _ e1;have g2:=@Ae _ _ _ e2;have hCx:=Oz (l:=l) hx;rw [hC.out,Jm] at hCx;replace hCx:=Aa hCx;have y0:(0:Int)<=(j:Int):=oM;have yk:((j:Int)).toNat=j:=oM;have hj':(j:Int)<(N:Int):=oM;have hin:x=l->R=false:=fun e=>by
      refine (HFk.out _ rfl).2 ?_;have hm:(ls.take k).contains l=true:=by rw [Il,Bl,<- e];exact Aw (i:=j) (by rw [Ja hlj,hx])
      rw [hm];rfl
     replace hin:=Aa hin;clear hx;cases vF:x==l with
     |true =>
      have hr:=Aa (hin.out (eq_of_beq vF));have hxl:((⟨x.toArray⟩:ByteArray)==⟨l.toArray⟩)=true:=by rw [Cw];exact vF
      go_wp2_with fail;refine Ba kR kR ?_;repeat (quiet_step (fail))
      refine Cj ?_;intro wq hbq;replace hbq:=As hbq;clear g1 g2;have hB2:=Aa (hB.out.trans (hbq.mono hB.out.size));clear hbq e1 e2 hB;go_wp2;go_ret;exact⟨by rw [hr.out];rfl,hB2.out⟩
     |false =>
      have hxl:((⟨x.toArray⟩:ByteArray)==⟨l.toArray⟩)=false:=by rw [Cw];exact vF
      rw [vF] at hCx;replace hCx:=Aa hCx.out;go_wp2_with fail;refine Ba kR kR ?_;repeat (quiet_step (fail))
      refine Cj ?_;intro wq hbq;replace hbq:=As hbq;clear g1 g2;have hB2:=Aa (hB.out.trans (hbq.mono hB.out.size));clear hbq e1 e2 hB;go_wp2;go_roundw;case rel=>exact⟨j+1,oM,by go_num,hCx,hB2⟩
      case measure=>simp [ZG];omega
    ·obtain rfl:j=k:=oM;rw [hC.out] at HFk;have hT1:=Aa ((HFk.out _ rfl).1 rfl);clear HFk;go_wp2;go_roundw;case rel=>exact⟨j+1,oM,by go_num,hT1,hB⟩
     case measure=>simp [ZG];omega
  ·obtain rfl:k=N:=oM;have hr:=HE.out k nR hT.out;clear HE;go_wp2;go_ret;exact⟨by rw [<- hr];rfl,hB.out⟩
theorem Sy (l:fE) (vm vp:ZC) (w:ZB) (h1:Strs w w vm l.measures) (h2:Strs w w vp l.aG) (hi:l.id.length<=4611686018427387904) (hs1:∀ x∈l.measures,x.length<=4611686018427387904) (hs2:∀ x∈l.aG,x.length<=4611686018427387904) : ZE prog 104 #[.agg (Bu l vm vp).toArray] w (Ret w (.bool (aO l))):=by
 have hR:aO l=(CH.isName l.id&&(!ZH ((l.measures.length:Int)<1)&&((aN l.measures&&ZH ((l.measures.length:Int)<=12))&&((aN l.aG&&ZH ((l.aG.length:Int)<=60))&&(ZH (0<=l.quota)&&(ZH (l.quota<=1000000000)&&(ZH (0<=l.uses)&&(ZH (l.uses<=1000)&&(aW l.start&&(aW l.aF&&ZH (l.start<l.aF))))))))))):=by unfold aO CH.within aW;rw [Ei];cases CH.isName l.id <;> cases aN l.measures <;> cases aN l.aG <;> simp;omega
 have hB0:=Aa fun o=>(Ac _ w).alloc nR o;have T0:=Aa fun (W:ZB)=>Ha l.id W hi;have T1:=Aa fun (W:ZB) (hb:Below w w W)=>Xs vm l.measures 12 W ((h1.below hb nR).mono hb.size) hs1;have T2:=Aa fun (W:ZB) (hb:Below w w W)=>Xs vp l.aG 60 W ((h2.below hb nR).mono hb.size) hs2;have I1:=Aa fun (W:ZB)=>Tg l.start W;have I2:=Aa fun (W:ZB)=>Tg l.aF W;obtain⟨_,_,rfl,_,_⟩:=h1.form;obtain⟨_,_,rfl,_,_⟩:=h2.form;clear h1 h2 hi hs1 hs2;rw [hR];clear hR;generalize CH.isName l.id=b0 at *;generalize (aN l.measures&&ZH ((l.measures.length:Int)<=12))=b2 at *;generalize (aN l.aG&&ZH ((l.aG.length:Int)<=60))=b3 at *;generalize aW l.start=b8 at *;generalize aW l.aF=b9 at *;generalize l.measures.length=n1 at *;generalize l.aG.length=n2 at *;dsimp only [Bu,ay,aJ] at *;go_enter func104,ntmps104;go_wp2_with fail;have B:=hB0.out;generalize hWd:w.alloc _=W at *;have hBW:Below w w W:=by rw [<- hWd];exact B _
 have K:=Aa (Ct hWd);clear hWd hB0 B;refine (T0.out _).mono ?_;rintro e w1 ⟨rfl,hb1⟩;have hB1:=hBW.trans (hb1.mono hBW.size);have c1:=K.out w1 hb1 1 _ rfl;clear T0;cases b0 with
 |false =>exact FD25
 |true =>
 cases q1:ZH ((n1:Int)<1) with
 |true =>go_wp2;go_ret;exact⟨by simp only [q1,Bool.false_and,a_Bool_true_and,Bool.not_false,Gi,Bool.and_false];rfl,hB1⟩
 |false =>
 go_wp2_with fail;refine (T1.out _ hB1).mono ?_;rintro e w2 ⟨rfl,hb2⟩;have hB2:=hB1.trans (hb2.mono hB1.size);have hb2:=hb1.trans (hb2.mono hb1.size);have c2:=K.out w2 hb2 2 _ rfl;clear T1 c1;cases b2 with
 |false =>go_wp2;go_ret;exact⟨by simp only [q1,Bool.false_and,a_Bool_true_and,Bool.not_false,Gi,Bool.and_false];rfl,hB2⟩
 |true =>
 go_wp2_with fail;refine (T2.out _ hB2).mono ?_;rintro e w3 ⟨rfl,hb3⟩;have hB3:=hB2.trans (hb3.mono hB2.size);have hb3:=hb2.trans (hb3.mono hb2.size);have c3:=K.out w3 hb3 3 _ rfl;have c4:=K.out w3 hb3 4 _ rfl;have c5:=K.out w3 hb3 5 _ rfl;clear T2 c2;cases b3 with
 |false =>go_wp2;go_ret;exact⟨by simp only [q1,Bool.false_and,a_Bool_true_and,Bool.not_false,Gi,Bool.and_false];rfl,hB3⟩
 |true =>
 cases q3:ZH (0<=l.quota) with
 |false =>go_wp2;go_ret;exact⟨by simp only [q1,q3,Bool.false_and,a_Bool_true_and,Bool.not_false,Gi,Bool.and_false];rfl,hB3⟩
 |true =>
 cases q4:ZH (l.quota<=1000000000) with
 |false =>go_wp2;go_ret;exact⟨by simp only [q1,q3,q4,Bool.false_and,a_Bool_true_and,Bool.not_false,Gi,Bool.and_false];rfl,hB3⟩
 |true =>
 cases q5:ZH (0<=l.uses) with
 |false =>go_wp2;go_ret;exact⟨by simp only [q1,q3,q4,q5,Bool.false_and,a_Bool_true_and,Bool.not_false,Gi,Bool.and_false];rfl,hB3⟩
 |true =>
 cases q6:ZH (l.uses<=1000) with
 |false =>go_wp2;go_ret;exact⟨by simp only [q1,q3,q4,q5,q6,Bool.false_and,a_Bool_true_and,Bool.not_false,Gi,Bool.and_false];rfl,hB3⟩
 |true =>
 go_wp2_with fail;refine (I1.out _).mono ?_;rintro e w4 ⟨rfl,hb4⟩;have hB4:=hB3.trans (hb4.mono hB3.size);have hb4:=hb3.trans (hb4.mono hb3.size);have d6:=K.out w4 hb4 6 _ rfl;clear I1 c3 c4 c5;cases b8 with
 |false =>go_wp2;go_ret;exact⟨by simp only [q1,q3,q4,q5,q6,Bool.false_and,a_Bool_true_and,Bool.not_false,Gi,Bool.and_false];rfl,hB4⟩
 |true =>
 go_wp2_with fail;refine (I2.out _).mono ?_;rintro e w5 ⟨rfl,hb5⟩;have hB5:=hB4.trans (hb5.mono hB4.size);have hb5:=hb4.trans (hb5.mono hb4.size);have e5:=K.out w5 hb5 5 _ rfl;have e6:=K.out w5 hb5 6 _ rfl;clear I2 K d6;cases b9 with
 |false =>go_wp2;go_ret;exact⟨by simp only [q1,q3,q4,q5,q6,Bool.false_and,a_Bool_true_and,Bool.not_false,Gi,Bool.and_false];rfl,hB5⟩
 |true =>
 cases q7:ZH (l.start<l.aF) <;>
  (go_wp2
   go_ret
   exact⟨by simp only [q1,q3,q4,q5,q6,q7,Bool.false_and,a_Bool_true_and,Bool.not_false,Gi,Bool.and_false];rfl,hB5⟩)
theorem Wu (l:fE) (vm vp:ZC) (w:ZB) (h1:Strs w w vm l.measures) (h2:Strs w w vp l.aG) (h:aO l=true) : ZE prog 104 #[.agg (Bu l vm vp).toArray] w (Ret w (.bool true)):=by
 have h0:=h;unfold aO aN at h0;simp only [Ar,Dh] at h0;have S:=fun (x:List UInt8) (e:CH.isName x=true)=>(by have:=(Sf e).2.1;omega:x.length<=4611686018427387904)
 have:=Sy l vm vp w h1 h2 (S _ (by simp_all)) (fun x hx=>S x (by simp_all)) (fun x hx=>S x (by simp_all));rwa [h] at this
end
section
open Go.Lib Go.Proofs.Tryz Go.RowKit Go.Shelf Go.Sort CH
attribute [local irreducible] wpQuiet
theorem Us (d:Nat) (h:d<10):(ByteArray.mk #[48,49,50,51,52,53,54,55,56,57]).extract d (d+1)=⟨[UInt8.ofNat (48+d)].toArray⟩:=by
 have:∀ d:Fin 10,(ByteArray.mk #[48,49,50,51,52,53,54,55,56,57]).extract d.val (d.val+1)=⟨[UInt8.ofNat (48+d.val)].toArray⟩:=by decide +kernel
 exact this ⟨d,h⟩
theorem Inc (m:Nat):Int.tmod (m:Int) 10=((m % 10:Nat):Int):=by rw [Int.tmod_eq_emod_of_nonneg oM];omega
theorem Inf (m:Nat):Int.tdiv (m:Int) 10=((m / 10:Nat):Int):=by rw [Int.tdiv_eq_ediv_of_nonneg oM];omega
def pre (m:Nat):List UInt8:=if m=0 then [] else Lib.decDigits m
theorem C65 (m:Nat) (h:0<m):Lib.decDigits m=pre (m / 10)++[UInt8.ofNat (48+m % 10)]:=by
 unfold pre;rw [Lib.decDigits];by_cases h10:m<10;·rw [dif_pos h10,Ap oM,Lj h10];rfl
 ·rw [dif_neg h10,Af oM]
theorem Yg (m:Nat):Lib.decDigits m=pre (m / 10)++[UInt8.ofNat (48+m % 10)]:=by
 rcases Nat.eq_zero_or_pos m with h|h;·subst h;rw [Lib.decDigits];rfl
 ·exact C65 m h
theorem Za (n:Nat) (w:ZB) (hn:n<9223372036854775808) : ZE prog 156 #[.int .u64 n] w (Ret w (.string ⟨(Lib.decDigits n).toArray⟩)):=by
 have hlen:(Lib.decDigits n).length<=20:=by rw [Lib.decDigits_length];exact Lib.nDigits_le20 n oM
 have hst:=Yg n;obtain⟨R,hR⟩:∃ R,Lib.decDigits n=R:=⟨_,rfl⟩
 rw [hR] at hlen hst ⊢;have m1:=Inc n;have m2:=Inf n;have d1:n % 10<10:=J9 _ oM;have d2:n / 10<9223372036854775808:=oM;have hsl:=Us (n % 10) d1;generalize UInt8.ofNat (48+n % 10)=c at *;generalize n % 10=d at *;generalize n / 10=q at *;replace hst:=Aa hst;replace hlen:=Aa hlen;clear hR;go_enter func156,ntmps156;go_wp2;go_loopw [0,3] (fun nv sv wr=>∃ (m:Nat) (t:List UInt8),m<9223372036854775808/\nv=.int .u64 m/\sv=↑t/\t.length<=20/\Hid (R=pre m++t)/\wr=w) (fun nv _ _=>(ZG nv).toNat);case atStart=>exact⟨q,[c],d2,rfl,rfl,sM,hst,rfl⟩
 case round =>
  clear m1 m2 hsl hst;obtain⟨m,t,hm,rfl,rfl,htl,hR,rfl⟩:=hrel;by_cases h0:m=0
  ·subst h0;have hRt:R=t:=by rw [hR.out];rfl
   subst hRt;clear hR;exact FD29
  ·have hst:R=pre (m / 10)++(UInt8.ofNat (48+m % 10)::t):=by have:=hR.out;unfold pre at this;rw [Af h0,C65 m oM] at this;rw [this];simp
   have hl2:=congrArg List.length hst;rw [Aj,Az] at hl2;have hl3:t.length+1<=20:=by have:=hlen.out;omega
   have m1:=Inc m;have m2:=Inf m;have d1:m % 10<10:=J9 _ oM;have d2:m / 10<m:=oM;have hsl:=Us (m % 10) d1;have hp:(0:Int)<(m:Int):=oM;have hq:¬ 9223372036854775807<1+t.length:=oM;generalize UInt8.ofNat (48+m % 10)=c at *;generalize m % 10=d at *;generalize m / 10=q at *;replace hst:=Aa hst;clear hR hl2;go_wp2;go_roundw;case rel=>exact⟨q,c::t,oM,rfl,by rw [show (⟨#[c]⟩:ByteArray)=⟨[c].toArray⟩ from rfl,bytes_append];rfl,hl3,hst,by first|rfl|trivial⟩
   case measure=>simp [ZG];omega
theorem Fy (n:Int) (w:ZB) (h0:0<=n) (h1:n<=9223372036854775807) : ZE prog 100 #[↑n] w (Ret w (.string ⟨(ZK n).toArray⟩)):=by
 obtain⟨m,rfl⟩:=Int.eq_ofNat_of_zero_le h0;have e:ZK (m:Int)=Lib.decDigits m:=by unfold ZK;rw [if_neg oM];simp
 rw [e];have D:=Aa (Za m w oM);have q:ZH ((m:Int)<0)=false:=Aq oM;have q2:IntKind.u64.wrap (m:Int)=(m:Int):=by rw [Iy];omega
 generalize Lib.decDigits m=ds at *;clear e;go_enter func100,ntmps100;exact FD142
def dF (n:Int):List UInt8:=if n = -1 then [45] else ZK n
theorem Cf (n:Int) (w:ZB) (h0:-1<=n) (h1:n<=9223372036854775807) : ZE prog 49 #[↑n] w (Ret w (.string ⟨(dF n).toArray⟩)):=by
 unfold dF;by_cases hn:n = -1;·subst hn;rw [Ap rfl];go_enter func49,ntmps49;exact FD29
 ·rw [Af hn];have D:=Aa (Fy n w oM h1);have q:(n==-1)=false:=by simpa using hn
  generalize ZK n=ds at *;go_enter func49,ntmps49;exact FD142
end
section
open Go.Lib Go.Proofs.Tryz Go.RowKit Go.Shelf Go.Sort CH
attribute [local irreducible] wpQuiet
theorem R6 (s:List UInt8) (i:Nat) (set:List UInt8) (w:ZB) (hs:s.length<=1000000) (hset:set.length<=1000) : ZE prog 330 #[↑s,↑i,↑set] w (Ret w (.bool (CH.isIn s i set))):=by
 by_cases hi:i<s.length
 ·obtain⟨ch,hch⟩:∃ ch,s[i]?=some ch:=⟨_,Ad hi⟩
  have e:CH.isIn s i set=set.contains ch:=by unfold CH.isIn;rw [hch]
  rw [e];clear e;have hgk:=Lf s i hi ch hch;clear hch;obtain⟨R,hR⟩:∃ R,Hid (set.contains ch=R):=⟨_,Aa rfl⟩
  rw [hR.out];obtain⟨N,hN⟩:∃ N,Hid (set.length=N):=⟨_,Aa rfl⟩
  have q0:ZH (s.length<=i)=false:=Aq oM;go_enter func330,ntmps330;go_wp2_with fail;go_loopw [7] (fun iv wr=>∃ k:Nat,k<=set.length/\iv=↑k/\Hid ((set.take k).contains ch=false)/\Hid (Below w w wr)) (fun iv _=>set.length - (ZG iv).toNat);case atStart=>exact⟨0,Bd _,rfl,Aa sM,Aa (Ac _ _)⟩
  case round =>
   obtain⟨k,hk,rfl,hI,hB⟩:=hrel;by_cases hlt:k<set.length
   ·obtain⟨c2,hc2⟩:∃ c2,set[k]?=some c2:=⟨_,Ad hlt⟩
    have hgj:=Lf set k hlt c2 hc2;have hd:((c2.toNat:Int)==(ch.toNat:Int))=(ch==c2):=by
     rw [Ei,Dz,Dz];constructor;·intro h;exact UInt8.toNat_inj.1 oM
     ·intro h;rw [h]
    have hsn:(set.take (k+1)).contains ch=(ch==c2):=by
     have e1:(set.take k++[c2]).contains ch=((set.take k).contains ch||ch==c2):=by rw [Ei];simp
     rw [D6,hc2,F7,e1,hI.out,Jm]
    have hyes:(ch==c2)=true->R=true:=fun h=>by rw [<- hR.out,List.contains_iff_mem,Dz.1 h];exact Aw hc2
    replace hsn:=Aa hsn;replace hyes:=Aa hyes;clear hI hc2;generalize (ch==c2)=b at *;cases b with
    |true =>
     obtain rfl:=hyes.out rfl;clear hyes hsn;go_wp2_with fail;refine Ba kR kR ?_;repeat (quiet_step (fail))
     refine Cj ?_;intro wq hbq;replace hbq:=As hbq;have hB2:=hB.out.trans (hbq.mono hB.out.size);go_wp2;go_ret;exact⟨rfl,hB2⟩
    |false =>
     clear hyes;go_wp2_with fail;refine Ba kR kR ?_;repeat (quiet_step (fail))
     refine Cj ?_;intro wq hbq;replace hbq:=As hbq;have hB2:=Aa (hB.out.trans (hbq.mono hB.out.size));go_wp2;go_roundw;case rel=>exact⟨k+1,oM,by go_num,hsn,hB2⟩
     case measure=>simp [ZG];omega
   ·obtain rfl:k=set.length:=oM;have hr:R=false:=by have:=hI.out;rw [Dv] at this;rw [<- hR.out,this]
    subst hr;clear hI;exact FD118
 ·have e:CH.isIn s i set=false:=by unfold CH.isIn;rw [List.getElem?_eq_none oM]
  rw [e];clear e;have q0:ZH ((s.length:Int)<=(i:Int))=true:=Ak oM;go_enter func330,ntmps330;exact FD29
theorem I46 (s:List UInt8) (i j:Nat) (set:List UInt8):CH.isIn (s.drop i) j set=CH.isIn s (i+j) set:=by unfold CH.isIn;rw [Ii]
theorem End:∀ n:Fin 256,(CH.smalls.contains (UInt8.ofNat n.val)||CH.smalls.contains (UInt8.ofNat n.val+32)&&ZH (65<=(UInt8.ofNat n.val).toNat)&&ZH ((UInt8.ofNat n.val).toNat<=90))=([97,98,99,100,101,102,103,104,105,106,107,108,109,110,111,112,113,114,115,116,117,118,119,120,121,122,65,66,67,68,69,70,71,72,73,74,75,76,77,78,79,80,81,82,83,84,85,86,87,88,89,90]:List UInt8).contains (UInt8.ofNat n.val):=by decide +kernel
theorem But (s:List UInt8) (i:Nat):eH (s.drop i)=CH.isIn s i [97,98,99,100,101,102,103,104,105,106,107,108,109,110,111,112,113,114,115,116,117,118,119,120,121,122,65,66,67,68,69,70,71,72,73,74,75,76,77,78,79,80,81,82,83,84,85,86,87,88,89,90]:=by
 unfold eH CH.isIn;rw [Ii,Hu];cases s[i]? with
 |none=>rfl
 |some c =>have:=End ⟨c.toNat,Ew c⟩;simp only [UInt8.ofNat_toNat] at this;exact this
theorem Ch2:∀ n:Fin 256,([97,105,117,101,111]:List UInt8).contains (UInt8.ofNat n.val)=true->([107,115,116,110,104,109,121,114,119,103,122,100,98,112]:List UInt8).contains (UInt8.ofNat n.val)=false:=by decide +kernel
theorem Hop {s:List UInt8} {i:Nat} (h:CH.isIn s i [97,105,117,101,111]=true):CH.isIn s i [107,115,116,110,104,109,121,114,119,103,122,100,98,112]=false:=by
 unfold CH.isIn at *;cases hc:s[i]? with
 |none=>rfl
 |some c =>rw [hc] at h;have:=Ch2 ⟨c.toNat,Ew c⟩;simp only [UInt8.ofNat_toNat] at this;exact this h
theorem I26 (k:Int) (s:List UInt8) (i:Nat):CH.slen k (s.drop i) = if k=1 then (if CH.isIn s i CH.smalls then 1 else 0) else if k=2 then (if CH.isIn s i [97,98,99,100,101,102,103,104,105,106,107,108,109,110,111,112,113,114,115,116,117,118,119,120,121,122,65,66,67,68,69,70,71,72,73,74,75,76,77,78,79,80,81,82,83,84,85,86,87,88,89,90] then (if CH.isIn s (i+1) [39,96,94] then 2 else 1) else 0) else if k=3 then (if CH.isIn s i ([98,100,102,103,104,106,107,108,109,110,112,113,114,115,116,119,120,121,122,39]:List UInt8) then 1 else 0) else if k=4 then (if CH.isIn s i [97,105,117,101,111] then 1 else if CH.isIn s i [107,115,116,110,104,109,121,114,119,103,122,100,98,112]&&CH.isIn s (i+1) [97,105,117,101,111] then 2 else if CH.isIn s i [110] then 1 else 0) else 0:=by
 unfold CH.slen;simp only [I46,But,Hu];by_cases h1:k=1;·rw [Ap h1,Ap h1]
 rw [Af h1,Af h1];by_cases h2:k=2;·rw [Ap h2,Ap h2]
 rw [Af h2,Af h2];by_cases h3:k=3;·rw [Ap h3,Ap h3]
 rw [Af h3,Af h3];by_cases h4:k=4
 ·rw [Ap h4,Ap h4];cases hv:CH.isIn s i [97,105,117,101,111] with
  |true =>have:=Hop hv;rw [this];rfl
  |false =>rw [Jm];rfl
 rw [Af h4,Af h4]
theorem Y9 (k:Int) (s:List UInt8) (i:Nat) (w:ZB) (hs:s.length<=1000000) (hi:i<=1000000) : ZE prog 321 #[↑k,↑s,↑i] w (Ret w (.int .i64 (CH.slen k (s.drop i)))):=by
 have hsl:=I26 k s i;obtain⟨R,hR⟩:∃ R:Nat,CH.slen k (s.drop i)=R:=⟨_,rfl⟩
 rw [hR] at hsl ⊢;clear hR;have A:=Aa fun (set:List UInt8) (h:set.length<=1000) (W:ZB)=>R6 s i set W hs h;have A':=Aa fun (W:ZB)=>R6 s (i+1) [39,96,94] W hs dC;have A'':=Aa fun (W:ZB)=>R6 s (i+1) [97,105,117,101,111] W hs dC;by_cases h1:k=1;·subst h1;have C:=Aa (A.out CH.smalls dC);clear A A' A'';rw [Ap rfl] at hsl;unfold CH.smalls at *;exact FD59
 by_cases h2:k=2
 ·subst h2;have C:=Aa (A.out [97,98,99,100,101,102,103,104,105,106,107,108,109,110,111,112,113,114,115,116,117,118,119,120,121,122,65,66,67,68,69,70,71,72,73,74,75,76,77,78,79,80,81,82,83,84,85,86,87,88,89,90] dC);clear A A'';rw [Af dC,Ap rfl] at hsl;generalize CH.isIn s i _=b at *;generalize CH.isIn s (i+1) _=b' at *;replace hsl:=Aa hsl;go_enter func321,ntmps321;go_wp2_with fail;refine (C.out _).mono ?_;rintro e w1 ⟨rfl,hb1⟩;cases b;·obtain rfl:=hsl.out;exact FD44
  ·go_wp2_with fail;refine (A'.out _).mono ?_;rintro e w2 ⟨rfl,hb2⟩;cases b';·obtain rfl:=hsl.out;go_wp2;go_ret;exact⟨rfl,hb1.trans (hb2.mono hb1.size)⟩
   ·obtain rfl:=hsl.out;go_wp2;go_ret;exact⟨rfl,hb1.trans (hb2.mono hb1.size)⟩
 by_cases h3:k=3;·subst h3;have C:=Aa (A.out ([98,100,102,103,104,106,107,108,109,110,112,113,114,115,116,119,120,121,122,39]:List UInt8) dC);clear A A' A'';rw [Af dC,Af dC,Ap rfl] at hsl;exact FD59
 by_cases h4:k=4
 ·subst h4;have C1:=Aa (A.out [97,105,117,101,111] dC);have C2:=Aa (A.out [107,115,116,110,104,109,121,114,119,103,122,100,98,112] dC);have C3:=Aa (A.out [110] dC);clear A A';rw [Af dC,Af dC,Af dC,Ap rfl] at hsl;generalize CH.isIn s i [97,105,117,101,111]=b1 at *;generalize CH.isIn s i [107,115,116,110,104,109,121,114,119,103,122,100,98,112]=b2 at *;generalize CH.isIn s i [110]=b3 at *;generalize CH.isIn s (i+1) _=b4 at *;replace hsl:=Aa hsl;go_enter func321,ntmps321;go_wp2_with fail;refine (C1.out _).mono ?_;rintro e w1 ⟨rfl,hb1⟩;cases b1
  ·go_wp2_with fail;refine (C2.out _).mono ?_;rintro e w2 ⟨rfl,hb2⟩;have hB2:=hb1.trans (hb2.mono hb1.size);cases b2
   ·go_wp2_with fail;refine (C3.out _).mono ?_;rintro e w3 ⟨rfl,hb3⟩;cases b3;·obtain rfl:=hsl.out;go_wp2;go_ret;exact FD117
    ·obtain rfl:=hsl.out;go_wp2;go_ret;exact FD117
   ·go_wp2_with fail;refine (A''.out _).mono ?_;rintro e w3 ⟨rfl,hb3⟩;have hB3:=hB2.trans (hb3.mono hB2.size);cases b4
    ·go_wp2_with fail;refine (C3.out _).mono ?_;rintro e w4 ⟨rfl,hb4⟩;cases b3;·obtain rfl:=hsl.out;go_wp2;go_ret;exact⟨rfl,hB3.trans (hb4.mono hB3.size)⟩
     ·obtain rfl:=hsl.out;go_wp2;go_ret;exact⟨rfl,hB3.trans (hb4.mono hB3.size)⟩
    ·obtain rfl:=hsl.out;go_wp2;go_ret;exact⟨rfl,hB3⟩
  ·obtain rfl:=hsl.out;exact FD44
 ·have e1:(k==1)=false:=by simpa using h1
  have e2:(k==2)=false:=by simpa using h2
  have e3:(k==3)=false:=by simpa using h3
  have e4:(k==4)=false:=by simpa using h4
  clear A A' A'';rw [Af h1,Af h2,Af h3,Af h4] at hsl;subst hsl;go_enter func321,ntmps321;exact FD29
end
section
open Go.Lib Go.Proofs.Tryz Go.RowKit Go.Shelf Go.Sort CH
attribute [local irreducible] wpQuiet
def Pea (R:Bool) (w:ZB) (e:Ending) (w':ZB):Prop:=∃ (v:ZC) (er:Int),e=.returned (.tuple #[v,↑er])/\(er==0)=R/\Below w w w'
theorem El8 (k:Int) (n:Nat):CH.letters k n []=([],[]):=by
 cases n with
 |zero=>rfl
 |succ n=>rw [bP k n [] (by have:=nI k [];simp at this;exact this)]
theorem Wv (k:Int) (s:List UInt8) (w:ZB) (hs:s.length<=1000000) : ZE prog 303 #[↑k,↑s] w (Pea (dH k s) w):=by
 obtain⟨R,hR⟩:∃ R,dH k s=R:=⟨_,rfl⟩
 have HW:=Aa fun (r:List UInt8) (n:Nat) (h2:(CH.letters k 13 s).2=r) (h1:(CH.letters k 13 s).1.length=n) =>(by rw [<- hR];unfold dH;rw [h2,h1,Bool.eq_iff_iff];simp [<- h1,and_assoc,List.length_pos_iff]:R=(r==[]&&(ZH (0<n)&&ZH (n<=12))))
 rw [hR];have L:=Aa fun (i:Nat) (hi:i<=1000000) (W:ZB)=>Y9 k s i W hs hi;clear hR;go_enter func303,ntmps303;go_wp2_with fail;go_loopw [6,7] (fun ov iv wr=>∃ (p j:Nat),p<=s.length/\j<=12/\iv=↑p/\Hid (∃ lo,Ay w wr ov lo/\lo.length=j)/\Hid ((CH.letters k 13 s).1.length=j+(CH.letters k (13 - j) (s.drop p)).1.length/\(CH.letters k 13 s).2=(CH.letters k (13 - j) (s.drop p)).2)/\Hid (Below w w wr)) (fun _ iv _=>s.length - (ZG iv).toNat);case atStart=>exact⟨0,0,Bd _,Bd _,rfl,Aa ⟨[],Ay.nil _ _,rfl⟩,Aa ⟨(Bh _).symm,rfl⟩,Aa (Ac _ _)⟩
 case round =>
  obtain⟨p,j,hp,hj,rfl,⟨lo,hO,hlo⟩,hI,hB⟩:=hrel;obtain⟨av,cv,rfl,hf1,hf2,_⟩:=hO.form;have hlo2:=Aa hlo;rw [hlo] at hf1 hO ⊢;by_cases hlt:p<s.length
  ·have hne:s.drop p≠[]:=fun e=>by have:=congrArg List.length e;rw [Et,Bj] at this;omega
   obtain⟨i1,i2⟩:=hI.out;rw [show 13 - j=(12 - j)+1 from by omega] at i1 i2;have hle:=nI k (s.drop p);rw [Et] at hle;obtain⟨d,hd⟩:∃ d,CH.slen k (s.drop p)=d:=⟨_,rfl⟩
   have L1:=Aa (L.out p oM wr);rw [hd] at hle L1;have hO:=Aa hO;have hsz:=hB.out.size;by_cases hz:d=0
   ·have hr:R=false:=by rw [bP k (12 - j) (s.drop p) (hd.trans hz)] at i1 i2;rw [HW.out _ _ i2 rfl,Bq.2 hne];rfl
    replace hr:=Aa hr;subst hz;exact FD56
   have qz:((d:Int)==0)=false:=by simp;omega
   rw [eY k (12 - j) (s.drop p) (by rw [hd];exact hz),hd] at i1 i2;by_cases h12:j=12
   ·have hr:R=false:=by rw [HW.out _ _ i2 i1,h12];simp
    replace hr:=Aa hr;subst h12;exact FD56
   have hnx:Hid ((CH.letters k 13 s).1.length=(j+1)+(CH.letters k (13 - (j+1)) (s.drop (p+d))).1.length/\(CH.letters k 13 s).2=(CH.letters k (13 - (j+1)) (s.drop (p+d))).2):=Aa (by rw [List.drop_drop] at i1 i2;rw [show 13 - (j+1)=12 - j from by omega,i1,i2,Az];exact⟨oM,rfl⟩);have q12:((j:Int)==12)=false:=by simp;omega
   clear hI i1 i2 hd hne HW;go_wp2_with fail;refine L1.out.mono ?_;rintro e w1 ⟨rfl,hb1⟩;have hO1:=hO.out.below hb1;have hB1:=hB.out.trans (hb1.mono hB.out.size);have hs1:=hB1.size;clear L1 hb1;have z0:(0:Int)<=(p:Int):=oM;have z1:(p:Int)<=(p:Int)+(d:Int):=oM;have z2:(p:Int)+(d:Int)<=(s.length:Int):=oM;have hex:(ByteArray.mk s.toArray).extract p (p+d)=⟨((s.drop p).take d).toArray⟩:=by rw [Fx,G6]
   go_wp2_with (at_builtin;refine Cr rfl _ _ rfl w _ lo rfl (hO1.alloc _) w1.heap.size 1 ((s.drop p).take d) rfl ?c1 ?c2 ?c3 ?_)
   case c1=>rw [Ci _ _ _ _ rfl];rfl
   case c2=>have:=hlo2.out;omega
   case c3=>simp;omega
   intro v3 w3 hO3 hg3 _;have hB4:Hid (Below w w w3):=Aa ((hB1.alloc oM _).grown hg3 (by simp;omega) (fun j hj=>(D7 hO1 j hj).1));have hO4:Hid (∃ lo,Ay w w3 v3 lo/\lo.length=j+1):=Aa ⟨_,hO3,by rw [Aj,hlo2.out];rfl⟩;clear hO3 hg3;go_wp2;go_roundw;case rel=>exact⟨p+d,j+1,oM,oM,by go_num,hO4,hnx,hB4⟩
   case measure=>simp [ZG];omega
  ·obtain rfl:p=s.length:=oM;have hr:R=ZH (0<j):=by obtain⟨i1,i2⟩:=hI.out;rw [List.drop_length,El8] at i1 i2;rw [HW.out _ _ i2 i1,Bj,Hu,Ak hj];simp
   replace hr:=Aa hr;clear hI HW;by_cases h0:j=0;·subst h0;go_wp2;refine Ah (Am rfl _ _ _) rfl ?_;exact⟨_,_,rfl,by rw [hr.out];rfl,hB.out⟩
   ·have q0:((j:Int)==0)=false:=by simp;omega
    go_wp2;refine Ah (Am rfl _ _ _) rfl ?_;exact⟨_,_,rfl,by rw [hr.out,Ak oM];rfl,hB.out⟩
theorem Y3 (k:Int) (s:List UInt8) (w:ZB) (hs:s.length<=1000000) : ZE prog 274 #[↑k,↑s] w (Ret w (.bool (dH k s))):=by have L:=Wv k s w hs;go_enter func274,ntmps274;go_wp2_with fail;refine L.mono ?_;rintro e w1 ⟨v,er,rfl,hr,hb1⟩;clear L;rw [<- hr];exact FD44
theorem Q6 (n:CH.Name) (v:ZC) (w:ZB) (hv:Strs w w v n.words) (hl:∀ l∈n.words,l.length<=1000000) : ZE prog 222 #[.agg #[↑n.script,v]] w (Ret w (.bool (bK n))):=by
 unfold bK;have C:=Aa fun (k:Nat) (x:List UInt8) (hk:n.words[k]?=some x) (W:ZB)=>Y3 n.script x W (hl x (Aw hk));clear hl;generalize n.words=ls at *;generalize n.script=sc at *;obtain⟨a,cap,rfl,hl,hcap,hne⟩:=hv;replace hne:=Aa hne;obtain⟨N,hN⟩:∃ N,ls.length=N:=⟨_,rfl⟩
 obtain⟨R,hR⟩:∃ R,(ls.all (dH sc)&&(ZH (0<ls.length)&&ZH (ls.length<=6)))=R:=⟨_,rfl⟩
 have HF:=Aa fun (k:Nat) (x:List UInt8) (hk:ls[k]?=some x) (h:dH sc x=false)=>(by rw [<- hR,<- Bool.not_eq_true];intro e;rw [Ar] at e;rw [Dh.1 e.1 x (Aw hk)] at h;exact Bool.noConfusion h:R=false)
 rw [hR];rw [hN] at hl hR ⊢;have HE:=Aa fun (h:∀ k x,k<N->ls[k]?=some x->dH sc x=true)=>(by rw [<- hR,Dh.2 fun x hx=>(Dy.1 hx).elim fun k hk=>h k x (by have:=(lS hk);omega) hk,a_Bool_true_and]:R=(ZH (0<N)&&ZH (N<=6)))
 clear hR;replace hN:=Aa hN;have hB0:=Aa fun o=>(Ac _ w).alloc nR o;go_enter func222,ntmps222;go_wp2_with fail;have B:=hB0.out;generalize hWd:w.alloc _=W at *;have hBW:Below w w W:=by rw [<- hWd];exact B _
 have K:=Aa (Ct (C:=[↑sc,.slice a N cap]) hWd);have hlW:w.heap.size<W.heap.size:=by rw [<- hWd];simp
 clear hWd hB0 B;go_loopw [3] (fun iv wr=>∃ k:Nat,k<=N/\iv=↑k/\Hid (∀ j x,j<k->ls[j]?=some x->dH sc x=true)/\Hid (Below W W wr)) (fun iv _=>N - (ZG iv).toNat);case atStart=>exact⟨0,Bd _,rfl,Aa fun j x h=>absurd h (Nat.not_lt_zero _),Aa (Ac _ _)⟩
 case round =>
  obtain⟨k,hk,rfl,hT,hB⟩:=hrel;have c0:=K.out wr hB.out 0 _ rfl;have c1:=K.out wr hB.out 1 _ rfl;by_cases hlt:k<N
  ·obtain⟨b,off,rfl,hbl,hcells⟩:=hne.out (by intro h;have:=hN.out;simp [h] at this;omega);obtain⟨l,hl'⟩:∃ l,ls[k]?=some l:=⟨_,Ad (by rw [hN.out];exact hlt)⟩
   have e1:wr.cell? ⟨b,off+k,none⟩=some ↑l:=((hBW.trans (hB.out.mono hBW.size)).cell (p:=⟨b,off+k,none⟩) hbl).trans (hcells k l hl');have D:=fun (W:ZB)=>C.out k l hl' W;have z0:(0:Int)<=(k:Int):=oM;have zk:((k:Int)).toNat=k:=oM;have hk':(k:Int)<(N:Int):=oM;have g0:=@Ae _ _ _ c0;have g1:=@Ae _ _ _ c1;have g2:=@Ae _ _ _ e1;have Hl:=Aa hl';clear hcells hl';cases hb:dH sc l with
   |false =>
    rw [hb] at D;replace D:=Aa D;have hr:=Aa (HF.out k l Hl.out hb);go_wp2_with fail;refine Ba kR kR ?_;repeat (quiet_step ((with_reducible exact Bg (D.out _))))
    refine Cj ?_;intro wq hbq;replace hbq:=As hbq;clear g0 g1 g2 D;have hB2:=Aa (hB.out.trans (hbq.mono hB.out.size));clear hbq e1 c0 c1 hB;go_wp2;go_ret;exact⟨by rw [hr.out];rfl,hBW.trans (hB2.out.mono hBW.size)⟩
   |true =>
    rw [hb] at D;replace D:=Aa D;have hT1:Hid (∀ j x,j<k+1->ls[j]?=some x->dH sc x=true):=Aa fun j x hj hx=>by exact FD138
    go_wp2_with fail;refine Ba kR kR ?_;repeat (quiet_step ((with_reducible exact Bg (D.out _))))
    refine Cj ?_;intro wq hbq;replace hbq:=As hbq;clear g0 g1 g2 D;have hB2:=Aa (hB.out.trans (hbq.mono hB.out.size));clear hbq e1 c0 c1 hB;go_wp2;go_roundw;case rel=>exact⟨k+1,oM,by go_num,hT1,hB2⟩
    case measure=>simp [ZG];omega
  ·obtain rfl:k=N:=oM;have hr:=HE.out hT.out;rcases (oM:k=0\/6<k\/1<=k/\k<=6) with h|h|⟨h,h'⟩;·have q1:ZH ((1:Int)<=(k:Int))=false:=Aq oM;rw [Aq oM,Bool.false_and] at hr;exact FD77
   ·have q1:ZH ((1:Int)<=(k:Int))=true:=Ak oM;have q2:ZH ((k:Int)<=6)=false:=Aq oM;rw [Ak oM,Aq oM,Bool.and_false] at hr;exact FD77
   ·have q1:ZH ((1:Int)<=(k:Int))=true:=Ak oM;have q2:ZH ((k:Int)<=6)=true:=Ak oM;rw [Ak oM,Ak h',Ik] at hr;exact FD77
theorem U8 (n:CH.Name) (v:ZC) (w:ZB) (hv:Strs w w v n.words) (hl:∀ l∈n.words,l.length<=1000000) (h:bK n=true) : ZE prog 222 #[.agg #[↑n.script,v]] w (Ret w (.bool true)):=by have:=Q6 n v w hv hl;rwa [h] at this
end
section
open Go.Lib Go.Proofs.Tryz Go.RowKit Go.Shelf Go.Sort CH
attribute [local irreducible] wpQuiet
theorem Ch1 {k:Int} {s:List UInt8} (h:dH k s=true):1<=k/\k<=4:=by
 unfold dH at h;simp only [Ar,Dz,Fg,Bq,ne_eq,Bl] at h;obtain⟨⟨h1,h2⟩,h3⟩:=h;have hz:CH.slen k s≠0:=fun e=>by rw [bP k 12 s e] at h2;exact h2 rfl
 apply Classical.byContradiction;intro hk;apply hz;unfold CH.slen;rw [Af oM,Af oM,Af oM,Af oM]
theorem Dot {n:CH.Name} (h:bK n=true):1<=n.script/\n.script<=4:=by
 unfold bK at h;simp only [Ar,Bl] at h;obtain⟨h1,h2,h3⟩:=h;cases hw:n.words with
 |nil=>rw [hw] at h2;simp at h2
 |cons x l=>exact Ch1 (Dh.1 h1 x (by rw [hw];simp))
theorem Ws (n:CH.Name) (v:ZC) (w:ZB) (hv:Strs w w v n.words) (hl:∀ l∈n.words,l.length<=1000000) (h:bK n=true) (hlen:(aV n).length<=1000000) : ZE prog 159 #[.agg #[↑n.script,v]] w (Ret w (.tuple #[.string ⟨(aV n).toArray⟩,.int .i64 0])):=by
 have V:=Aa fun (W:ZB) (hb:Below w w W)=>U8 n v W ((hv.below hb nR).mono hb.size) hl h;have hsc:=Dot h;have T:=Aa fun (W:ZB)=>Bfp n.script W;obtain⟨R,hR⟩:∃ R,Hid (aV n=R):=⟨_,Aa rfl⟩
 rw [hR.out] at hlen ⊢;have hR2:Hid (CH.title n.script++[58]++CH.join [32] n.words=R):=hR;clear h hl hR;generalize n.script=sc at *;generalize n.words=ls at *;obtain⟨a,cap,rfl,hl,hcap,hne⟩:=hv;replace hne:=Aa hne;obtain⟨N,hN⟩:∃ N,ls.length=N:=⟨_,rfl⟩
 rw [hN] at hl V ⊢;replace hN:=Aa hN;have HL:Hid (∀ k:Nat,(CH.title sc++[58]++CH.join [32] (ls.take k)).length<=1000000):=Aa fun k=>by have h1:=Pi [32] (ls.take k) (ls.drop k);rw [En] at h1;rw [<- hR2.out] at hlen;rw [Aj] at hlen ⊢;omega
 have hB0:=Aa fun o=>(Ac _ w).alloc nR o;go_enter func159,ntmps159;go_wp2_with fail;have B:=hB0.out;generalize hWd:w.alloc _=W at *;have hBW:Below w w W:=by rw [<- hWd];exact B _
 have K:=Aa (Ct (C:=[↑sc,.slice a N cap]) hWd);clear hWd hB0 B;refine (V.out _ hBW).mono ?_;rintro e w1 ⟨rfl,hb1⟩;have hB1:=hBW.trans (hb1.mono hBW.size);have c0:=K.out w1 hb1 0 _ rfl;clear V;go_wp2_with fail;refine (T.out _).mono ?_;rintro e w2 ⟨hb2,t0,rfl,ht0⟩;have ht0:=Aa (ht0 hsc);have hB2:=hB1.trans (hb2.mono hB1.size);have hb2:=hb1.trans (hb2.mono hb1.size);have hB2:=Aa hB2;have hb2:=Aa hb2;clear T hBW hb1 hB1 c0 hsc;go_wp2_with fail;go_loopw [4,5] (fun sv iv wr=>∃ (k:Nat) (t:List UInt8),k<=N/\iv=↑k/\sv=↑t/\t.length<=1000000/\Hid (t=CH.title sc++[58]++CH.join [32] (ls.take k))/\Hid (Below w w wr)/\Hid (Below W W wr)) (fun _ iv _=>N - (ZG iv).toNat);case atStart=>exact⟨0,t0,Bd _,rfl,rfl,by have:=HL.out 0;rw [ht0.out];simpa [CH.join] using this,Aa (by rw [ht0.out];simp [CH.join]),hB2,hb2⟩
 case round =>
  obtain⟨k,t,hk,rfl,rfl,htl,ht,hBr,hb⟩:=hrel;have c1:=K.out wr hb.out 1 _ rfl;by_cases hlt:k<N
  ·obtain⟨b,off,rfl,hbl,hcells⟩:=hne.out (by intro h;have:=hN.out;simp [h] at this;omega);obtain⟨l,hl'⟩:∃ l,ls[k]?=some l:=⟨_,Ad (by rw [hN.out];exact hlt)⟩
   have e1:wr.cell? ⟨b,off+k,none⟩=some ↑l:=(hBr.out.cell (p:=⟨b,off+k,none⟩) hbl).trans (hcells k l hl');have hs:=Nf [32] (ls.take k) l;have htk:ls.take k++[l]=ls.take (k+1):=by rw [D6,hl',F7]
   rw [htk] at hs;have hL:=HL.out (k+1);clear hcells hl';have z0:(0:Int)<=(k:Int):=oM;have zk:((k:Int)).toNat=k:=oM;have hk':(k:Int)<(N:Int):=oM;by_cases hk0:k=0
   ·subst hk0;rw [Ia,Ap rfl] at hs;have ht1:CH.title sc++[58]++CH.join [32] (ls.take (0+1))=t++l:=by rw [hs,ht.out];simp [CH.join]
    rw [ht1] at hL;have hs':=Aa ht1.symm;have hq:¬ 9223372036854775807<t.length+l.length:=by rw [Aj] at hL;omega
    clear hs ht ht1;rw [Hu] at e1;go_wp2_with fail;refine⟨⟨1,t++l,oM,by go_num,by rw [bytes_append],hL,hs',hBr,hb⟩,by simp [ZG];omega⟩
   ·have hne0:ls.take k≠[]:=by intro e;have:=congrArg List.length e;rw [Ec,hN.out] at this;simp at this;omega
    rw [Af hne0] at hs;have ht1:CH.title sc++[58]++CH.join [32] (ls.take (k+1))=t++([32]++l):=by rw [hs,ht.out];simp
    rw [ht1] at hL;have hp:(0:Int)<(k:Int):=oM;have hq:¬ 9223372036854775807<t.length+1+l.length:=by simp only [Aj,Az,Bj] at hL;omega
    have hs':=Aa ht1.symm;clear hs ht ht1;go_wp2_with fail;refine⟨⟨k+1,t++([32]++l),oM,by go_num,by rw [show (⟨#[32]⟩:ByteArray)=⟨([32]:List UInt8).toArray⟩ from rfl,bytes_append,bytes_append,D9],hL,hs',hBr,hb⟩,by simp [ZG];omega⟩
  ·obtain rfl:k=N:=oM;have htR:t=R:=by rw [ht.out,<- hR2.out,Cc (by rw [hN.out];exact Bo _)]
   subst htR;clear ht;go_wp2;refine Ah (Am rfl _ _ _) rfl ?_;exact⟨rfl,hBr.out⟩
end
section
open Go.Lib Go.Proofs.Tryz Go.RowKit Go.Shelf Go.Sort CH
attribute [local irreducible] wpQuiet
theorem Br {s:List UInt8} (h:CH.isName s=true):1<=s.length/\s.length<=24:=⟨(Sf h).1,(Sf h).2.1⟩
theorem Y5 (e:CH.Entry) (v:ZC) (w:ZB) (hv:Ge w w v e.names) (hS:∀ n∈e.names,∀ l∈n.words,l.length<=1000000) (hi:e.id.length<=9223372036854775807) : ZE prog 220 #[.agg #[↑e.id,v]] w (Ret w (.bool (dJ e))):=by
 obtain⟨R,hR⟩:∃ R,dJ e=R:=⟨_,rfl⟩
 have hR2:=hR;unfold dJ at hR2;rw [lN] at hR2;rw [hR];clear hR;have I:=Aa fun (W:ZB)=>Fw e.id W hi;have C:=Aa fun (k:Nat) (x:CH.Name) (hk:e.names[k]?=some x)=>fun (vw:ZC) (W:ZB) (hvw:Strs W W vw x.words)=>Q6 x vw W hvw (hS x (Aw hk));clear hS hi;generalize e.names=ls at *;generalize e.id=id at *;generalize CH.isName id=bn at *;obtain⟨a,cap,rfl,hl,hcap,hne⟩:=hv;replace hne:=Aa hne;obtain⟨N,hN⟩:∃ N,ls.length=N:=⟨_,rfl⟩
 rw [hN] at hl hR2 ⊢;have HF:=Aa fun (k:Nat) (x:CH.Name) (hk:ls[k]?=some x) (h:bK x=false)=>(by rw [<- hR2,Iw.2 ⟨x,Aw hk,by rw [h];rfl⟩];simp:R=false)
 have HE:=Aa fun (h:∀ k x,k<N->ls[k]?=some x->bK x=true)=>(by
  have h0:(ls.any fun n=>!bK n)=false:=Jq.2 fun x hx=>(Dy.1 hx).elim fun k hk=>by rw [h k x (by have:=(lS hk);omega) hk];simp
  rw [<- hR2,h0,Bool.not_false,Ik]:R=(bn&&(ZH (0<N)&&ZH (N<=8))))
 clear hR2;replace hN:=Aa hN;have hB0:=Aa fun o=>(Ac _ w).alloc nR o;go_enter func220,ntmps220;go_wp2_with fail;have B:=hB0.out;generalize hWd:w.alloc _=W at *;have hBW:Below w w W:=by rw [<- hWd];exact B _
 have K:=Aa (Ct (C:=[↑id,.slice a N cap]) hWd);clear hWd hB0 B;go_loopw [3] (fun iv wr=>∃ k:Nat,k<=N/\iv=↑k/\Hid (∀ j x,j<k->ls[j]?=some x->bK x=true)/\Hid (Below W W wr)) (fun iv _=>N - (ZG iv).toNat);case atStart=>exact⟨0,Bd _,rfl,Aa fun j x h=>absurd h (Nat.not_lt_zero _),Aa (Ac _ _)⟩
 case round =>
  obtain⟨k,hk,rfl,hT,hB⟩:=hrel;have c0:=K.out wr hB.out 0 _ rfl;have c1:=K.out wr hB.out 1 _ rfl;have hBw:Below w w wr:=hBW.trans (hB.out.mono hBW.size);by_cases hlt:k<N
  ·obtain⟨b,off,rfl,hbl,hcells⟩:=hne.out (by intro h;have:=hN.out;simp [h] at this;omega);obtain⟨n,hn'⟩:∃ n,ls[k]?=some n:=⟨_,Ad (by rw [hN.out];exact hlt)⟩
   obtain⟨vw,d1,d2,d3⟩:=hcells k n hn';have e1:=(hBw.cell (p:=⟨b,off+k*2,none⟩) hbl).trans d1;have e2:=(hBw.cell (p:=⟨b,off+k*2+1,none⟩) hbl).trans d2;have F:=C.out k n hn' vw wr ((d3.below hBw nR).mono hBw.size);have Hl:=Aa hn';clear hcells d1 d2 hn';obtain⟨vwa,vwc,rfl,_,_⟩:=d3;generalize n.words.length=nw at *;have z0:(0:Int)<=(k:Int):=oM;have zk:((k:Int)).toNat=k:=oM;have hk':(k:Int)<(N:Int):=oM;cases hb:bK n with
   |false =>rw [hb] at F;replace F:=Aa F;have hr:=Aa (HF.out k n Hl.out hb);go_wp2_with fail;refine F.out.mono ?_;rintro e w1 ⟨rfl,hb1⟩;have hB1:Hid (Below W W w1):=Aa (hB.out.trans (hb1.mono hB.out.size));clear F e1 e2 c0 c1 hb1 hBw hB;go_wp2;go_ret;exact⟨by rw [hr.out];rfl,hBW.trans (hB1.out.mono hBW.size)⟩
   |true =>
    rw [hb] at F;replace F:=Aa F;have hT1:Hid (∀ j x,j<k+1->ls[j]?=some x->bK x=true):=Aa fun j x hj hx=>by exact FD138
    go_wp2_with fail;refine F.out.mono ?_;rintro e w1 ⟨rfl,hb1⟩;have hB1:Hid (Below W W w1):=Aa (hB.out.trans (hb1.mono hB.out.size));clear F e1 e2 c0 c1 hb1 hBw hB;go_wp2;go_roundw;case rel=>exact⟨k+1,oM,by go_num,hT1,hB1⟩
    case measure=>simp [ZG];omega
  ·obtain rfl:k=N:=oM;have hr:=Aa (HE.out hT.out);clear HE HF hT;go_wp2_with fail;refine (I.out _).mono ?_;rintro e w1 ⟨rfl,hb1⟩;have hB1:=hB.out.trans (hb1.mono hB.out.size);have c1:=K.out w1 hB1 1 _ rfl;clear I;cases bn with
   |false =>go_wp2;go_ret;exact⟨by rw [hr.out];rfl,hBW.trans (hB1.mono hBW.size)⟩
   |true =>
   rcases (oM:k=0\/8<k\/1<=k/\k<=8) with h|h|⟨h,h'⟩;·have q1:ZH ((1:Int)<=(k:Int))=false:=Aq oM;go_wp2;go_ret;exact⟨by rw [hr.out,Aq (oM:¬ 0<k)];rfl,hBW.trans (hB1.mono hBW.size)⟩
   ·have q1:ZH ((1:Int)<=(k:Int))=true:=Ak oM;have q2:ZH ((k:Int)<=8)=false:=Aq oM;go_wp2;go_ret;exact⟨by rw [hr.out,Aq (oM:¬ k<=8),Bool.and_false,Bool.and_false];rfl,hBW.trans (hB1.mono hBW.size)⟩
   ·have q1:ZH ((1:Int)<=(k:Int))=true:=Ak oM;have q2:ZH ((k:Int)<=8)=true:=Ak oM;go_wp2;go_ret;exact⟨by rw [hr.out,Ak (oM:0<k),Ak h'];rfl,hBW.trans (hB1.mono hBW.size)⟩
theorem Ux (c:CH.Change):cZ c=(CH.isName c.id&&(if c.kind=1 then (c.entry.id==c.id&&dJ c.entry)&&aW c.pos else if c.kind=2 then (c.entry.id==[]&&ZH (c.entry.names.length=0))&&aW c.pos else if c.kind=3 then (c.entry.id==c.id&&dJ c.entry)&&c.pos==0 else (c.kind==4&&(c.entry.id==[]&&ZH (c.entry.names.length=0))&&c.pos==0))):=by
 unfold cZ;rw [lN];generalize dJ c.entry=b1;generalize aW c.pos=b2;generalize CH.isName c.id=b3;rcases (oM:c.kind=1\/c.kind=2\/c.kind=3\/c.kind=4\/(c.kind<1\/4<c.kind)) with e|e|e|e|e;·cases b1 <;> cases b2 <;> cases b3 <;> cases h:(c.entry.id==c.id) <;> simp [e,bne,h]
 ·cases b2 <;> cases b3 <;> cases h:(c.entry.id==([]:List UInt8)) <;> simp [e,bne,h,Nat.pos_iff_ne_zero]
 ·cases b1 <;> cases b3 <;> cases h:(c.entry.id==c.id) <;> cases h2:(c.pos==0) <;> simp [e,bne,h,h2]
 ·cases b3 <;> cases h:(c.entry.id==([]:List UInt8)) <;> cases h2:(c.pos==0) <;> simp [e,bne,h,h2,Nat.pos_iff_ne_zero]
 ·have e1:(ZH (c.kind<1)||ZH (c.kind > 4))=true:=by simp;omega
  rw [Ap (by rw [Bool.or_assoc,e1,Bool.or_true]),Af oM,Af oM,Af oM,show (c.kind==4)=false from by simp;omega];simp
theorem Ys (c:CH.Change) (v:ZC) (w:ZB) (hv:Ge w w v c.entry.names) (hS:∀ n∈c.entry.names,∀ l∈n.words,l.length<=1000000) (hi:c.id.length<=9223372036854775807) (hi2:c.entry.id.length<=9223372036854775807) : ZE prog 158 #[.agg (A9 c v).toArray] w (Ret w (.bool (cZ c))):=by
 obtain⟨R,hR⟩:∃ R,cZ c=R:=⟨_,rfl⟩
 rw [hR];rw [Ux] at hR;have I:=Aa fun (W:ZB)=>Fw c.id W hi;have hB0:=Aa fun o=>(Ac _ w).alloc nR o;have P:=Aa fun (W:ZB) (hb:Below w w W)=>Y5 c.entry v W (hv.grow hb) hS hi2;have D:=Aa fun (W:ZB)=>Crs c.pos W;obtain⟨a,cap,rfl,hl,hcap,_⟩:=hv;dsimp only [A9] at *;generalize dJ c.entry=bp at *;generalize aW c.pos=bd at *;generalize CH.isName c.id=bn at *;have s1:((⟨c.entry.id.toArray⟩:ByteArray)==⟨c.id.toArray⟩)=(c.entry.id==c.id):=by rw [Cw]
 have s2:((⟨c.entry.id.toArray⟩:ByteArray)==⟨#[]⟩)=(c.entry.id==[]):=by rw [show (#[]:Array UInt8)=([]:List UInt8).toArray from rfl,Cw]
 have s3:List.isEmpty c.entry.id=(c.entry.id==[]):=by cases c.entry.id <;> rfl
 generalize (c.entry.id==c.id)=y1 at *;generalize (c.entry.id==[])=y2 at *;generalize c.entry.id=eid at *;generalize c.id=id at *;generalize c.pos=pos at *;generalize c.kind=kd at *;generalize c.entry.names.length=N at *;clear hl hS hi hi2;replace s1:=Aa s1;replace s2:=Aa s2;replace s3:=Aa s3;obtain⟨bz,hz⟩:∃ b,(pos==0)=b:=⟨_,rfl⟩
 obtain⟨bq,q2,q3⟩:∃ b,((N:Int)==0)=b/\ZH (N=0)=b:=⟨_,rfl,by rw [Ei];simp⟩
 rw [q3,hz] at hR;replace hR:=Aa hR;go_enter func158,ntmps158;go_wp2_with fail;have B:=hB0.out;generalize hWd:w.alloc _=W at *;have hBW:Below w w W:=by rw [<- hWd];exact B _
 have K:=Aa (Ct hWd);clear hWd hB0 B;refine (I.out _).mono ?_;rintro e w1 ⟨rfl,hb1⟩;have hB1:=hBW.trans (hb1.mono hBW.size);have c0:=K.out w1 hb1 0 _ rfl;have c1:=K.out w1 hb1 1 _ rfl;have c2:=K.out w1 hb1 2 _ rfl;have c3:=K.out w1 hb1 3 _ rfl;have c4:=K.out w1 hb1 4 _ rfl;clear I;cases bn with
 |false =>have hr:=hR.out;rw [Bool.false_and] at hr;replace hr:=Aa hr;go_wp2;go_ret;exact⟨by rw [<- hr.out];rfl,hB1⟩
 |true =>
 replace s1:=s1.out;replace s2:=s2.out;replace s3:=s3.out;have hk:kd=1\/kd=2\/kd=3\/kd=4\/(((kd==1)=false/\(kd==2)=false)/\(kd==3)=false/\(kd==4)=false):=by simp only [Bq,ne_eq];omega
 cases y1
 ·have s4:(eid==id)=false:=by rw [<- Cw];exact s1
  have s5:¬ eid=id:=Bq.1 s4;have s6:¬ id=eid:=fun e=>s5 e.symm;have hx:eid=[]/\y2=true\/(¬ eid=[]/\(eid==[])=false)/\y2=false:=by exact FD102
  rcases hx with⟨rfl,rfl⟩|⟨⟨s7,s8⟩,rfl⟩ <;> cases bq <;> cases bz <;> rcases hk with rfl|rfl|rfl|rfl|⟨⟨k1,k2⟩,k3,k4⟩;all_goals
   have hr:=hR.out;clear P;first
   |rw [Ap rfl] at hr
   |rw [Af dC,Ap rfl] at hr
   |rw [Af dC,Af dC,Ap rfl] at hr
   |rw [Af dC,Af dC,Af dC] at hr
   |rw [Af (Bq.1 k1),Af (Bq.1 k2),Af (Bq.1 k3),k4] at hr
   replace hr:=Aa hr;clear hR;go_wp2_with fail;first
   |(go_ret;exact⟨by rw [<- hr.out];rfl,hB1⟩)
   |(refine (D.out _).mono ?_
     rintro e w3 ⟨rfl,hb3⟩
     go_wp2
     go_ret
     exact⟨by rw [<- hr.out];rfl,hB1.trans (hb3.mono hB1.size)⟩)
 ·obtain rfl:eid=id:=by rw [Cw] at s1;exact eq_of_beq s1
  have hx:eid=[]/\y2=true\/(¬ eid=[]/\(eid==[])=false)/\y2=false:=by exact FD102
  rcases hx with⟨rfl,rfl⟩|⟨⟨s7,s8⟩,rfl⟩ <;> cases bq;all_goals go_wp2_with fail;refine (P.out _ hB1).mono ?_;rintro e w2 ⟨rfl,hb2⟩;have hB2:=hB1.trans (hb2.mono hB1.size);have hb2:=hb1.trans (hb2.mono hb1.size);have c0:=K.out w2 hb2 0 _ rfl;have c4:=K.out w2 hb2 4 _ rfl;clear P hB1 hb1;cases bp <;> cases bz <;> rcases hk with rfl|rfl|rfl|rfl|⟨⟨k1,k2⟩,k3,k4⟩
  all_goals
   have hr:=hR.out;first
   |rw [Ap rfl] at hr
   |rw [Af dC,Ap rfl] at hr
   |rw [Af dC,Af dC,Ap rfl] at hr
   |rw [Af dC,Af dC,Af dC] at hr
   |rw [Af (Bq.1 k1),Af (Bq.1 k2),Af (Bq.1 k3),k4] at hr
   replace hr:=Aa hr;clear hR;go_wp2_with fail;first
   |(go_ret;exact⟨by rw [<- hr.out];rfl,hB2⟩)
   |(refine (D.out _).mono ?_
     rintro e w3 ⟨rfl,hb3⟩
     go_wp2
     go_ret
     exact⟨by rw [<- hr.out];rfl,hB2.trans (hb3.mono hB2.size)⟩)
theorem Bin (c:CH.Change) (v:ZC) (w:ZB) (hv:Ge w w v c.entry.names) (hS:∀ n∈c.entry.names,∀ l∈n.words,l.length<=1000000) (h:cZ c=true) : ZE prog 158 #[.agg (A9 c v).toArray] w (Ret w (.bool true)):=by
 have h0:=h;rw [Ux,Ar] at h0;have hi:c.id.length<=9223372036854775807:=by have:=(Br h0.1).2;omega
 have hi2:c.entry.id.length<=9223372036854775807:=by
  have h1:=h0.2;repeat' split at h1
  all_goals
   simp only [Ar,Dz] at h1;first
   |(rw [h1.1.1];exact hi)
   |(rw [h1.1.1];simp)
   |(rw [h1.1.2.1];simp)
 have:=Ys c v w hv hS hi hi2;rwa [h] at this
end
section
open Go.Lib Go.Proofs.Tryz Go.RowKit Go.Shelf Go.Sort CH
attribute [local irreducible] wpQuiet
theorem Dom (m:bC):aT m=(CH.isName m.id&&(CH.isName m.authority&&(if m.kind=1 then m.target==[] else if m.kind=2 then CH.isName m.target&&!(m.target==m.id) else if m.kind=3 then CH.isName m.target&&!(m.target==m.authority) else false))):=by
 unfold aT;simp only [kC,bne];repeat' split
 all_goals simp only [Bool.and_assoc,Bool.and_false]
theorem Qn (m:bC) (vk:ZC) (w:ZB) (hK:A6 w w m.aA vk) (hi1:m.id.length<=9223372036854775807) (hi2:m.authority.length<=9223372036854775807) (hi3:m.target.length<=9223372036854775807) : ZE prog 161 #[.agg (A4 m vk).toArray] w (Ret w (.bool (aT m))):=by
 obtain⟨R,hR⟩:∃ R,aT m=R:=⟨_,rfl⟩
 rw [hR];rw [Dom] at hR;have T1:=Aa fun (W:ZB)=>Fw m.id W hi1;have T2:=Aa fun (W:ZB)=>Fw m.authority W hi2;have T3:=Aa fun (W:ZB)=>Fw m.target W hi3;have hB0:=Aa fun o=>(Ac _ w).alloc nR o;obtain⟨a,cap,rfl,_,_,_⟩:=hK.form;clear hK hi1 hi2 hi3;generalize m.aA.kids.length=n at *;dsimp only [A4] at *;generalize CH.isName m.id=b1 at *;generalize CH.isName m.authority=b2 at *;generalize CH.isName m.target=b3 at *;generalize m.id=id at *;generalize m.authority=au at *;generalize m.target=tg at *;generalize m.kind=kd at *;replace hR:=Aa hR;go_enter func161,ntmps161;go_wp2_with fail;have B:=hB0.out;generalize hWd:w.alloc _=W at *;have hBW:Below w w W:=by rw [<- hWd];exact B _
 have K:=Aa (Ct hWd);clear hWd hB0 B;refine (T1.out _).mono ?_;rintro e w1 ⟨rfl,hb1⟩;have c1:=K.out w1 hb1 1 _ rfl;clear T1;cases b1 with
 |false =>go_wp2;go_ret;exact⟨by rw [<- hR.out];rfl,hBW.trans (hb1.mono hBW.size)⟩
 |true =>
 go_wp2_with fail;refine (T2.out _).mono ?_;rintro e w2 ⟨rfl,hb2⟩;have hb2:=hb1.trans (hb2.mono hb1.size);have c0:=K.out w2 hb2 0 _ rfl;have c1:=K.out w2 hb2 1 _ rfl;have c2:=K.out w2 hb2 2 _ rfl;have c3:=K.out w2 hb2 3 _ rfl;have hB2:=hBW.trans (hb2.mono hBW.size);clear T2;cases b2 with
 |false =>go_wp2;go_ret;exact⟨by rw [<- hR.out];rfl,hB2⟩
 |true =>
 have hr:=hR.out;rw [a_Bool_true_and,a_Bool_true_and] at hr;clear hR;rcases (oM:kd=1\/kd=2\/kd=3\/¬ kd=1/\¬ kd=2/\¬ kd=3) with rfl|rfl|rfl|⟨k1,k2,k3⟩
 ·rw [Ap rfl] at hr;clear T3;cases hx:tg==([]:List UInt8) with
  |false =>obtain⟨s1,s2,s3⟩:=Kk hx;have s4:tg.isEmpty=false:=List.isEmpty_eq_false_iff.2 s2;rw [hx] at hr;replace hr:=Aa hr;exact FD134
  |true =>obtain rfl:=eq_of_beq hx;replace hr:=Aa hr;exact FD134
 ·rw [Af dC,Ap rfl] at hr;replace hr:=Aa hr;go_wp2_with fail;refine (T3.out _).mono ?_;rintro e w3 ⟨rfl,hb3⟩;have hb3:=hb2.trans (hb3.mono hb2.size);have c0:=K.out w3 hb3 0 _ rfl;have c3:=K.out w3 hb3 3 _ rfl;have hB3:=hBW.trans (hb3.mono hBW.size);clear c1 c2 T3;cases b3 with
  |false =>exact FD133
  |true =>
  cases hx:tg==id with
  |false =>obtain⟨s1,s2,s3⟩:=Kk hx;exact FD49
  |true =>obtain rfl:=eq_of_beq hx;exact FD49
 ·rw [Af dC,Af dC,Ap rfl] at hr;replace hr:=Aa hr;go_wp2_with fail;refine (T3.out _).mono ?_;rintro e w3 ⟨rfl,hb3⟩;have hb3:=hb2.trans (hb3.mono hb2.size);have c1:=K.out w3 hb3 1 _ rfl;have c3:=K.out w3 hb3 3 _ rfl;have hB3:=hBW.trans (hb3.mono hBW.size);clear c0 c2 T3;cases b3 with
  |false =>exact FD133
  |true =>
  cases hx:tg==au with
  |false =>obtain⟨s1,s2,s3⟩:=Kk hx;exact FD49
  |true =>obtain rfl:=eq_of_beq hx;exact FD49
 ·rw [Af k1,Af k2,Af k3] at hr;replace hr:=Aa hr;have q1:(kd==1)=false:=Bq.2 k1;have q2:(kd==2)=false:=Bq.2 k2;have q3:(kd==3)=false:=Bq.2 k3;exact FD134
theorem Com (m:bC) (vk:ZC) (w:ZB) (hK:A6 w w m.aA vk) (h:aT m=true) : ZE prog 161 #[.agg (A4 m vk).toArray] w (Ret w (.bool true)):=by
 have h0:=h;rw [Dom,Ar,Ar] at h0;obtain⟨h1,h2,h3⟩:=h0;have h4:m.target.length<=24:=by
  repeat' split at h3
  ·rw [eq_of_beq h3];simp
  ·exact (Br (Ar _ _ ▸ h3).1).2
  ·exact (Br (Ar _ _ ▸ h3).1).2
  ·cases h3
 have:=Qn m vk w hK (by have:=(Br h1).2;omega) (by have:=(Br h2).2;omega) oM;rwa [h] at this
theorem Qq (m:bC) (vk:ZC) (w:ZB) (hK:A6 w w m.aA vk) : ZE prog 162 #[.agg (A4 m vk).toArray] w (Ret w (.bool (bg m))):=by
 obtain⟨R,hR⟩:∃ R,bg m=R:=⟨_,rfl⟩
 rw [hR];unfold bg at hR;have hB0:=Aa fun o=>(Ac _ w).alloc nR o;obtain⟨a,cap,rfl,_,_,_⟩:=hK.form;clear hK;generalize m.aA.kids.length=n at *;dsimp only [A4] at *;generalize m.start=st at *;generalize m.aF=un at *;generalize m.dL=wi at *;generalize m.kind=kd at *;rcases (oM:(st<0\/100000<st)\/0<=st/\st<=100000) with h|⟨h1,h2⟩
 ·have hr:R=false:=by
   rw [<- hR];rcases h with h|h;·rw [Aq (oM:¬ st >= 0)];rfl
   ·rw [Aq (oM:¬ st<=100000),Bool.false_and,Bool.and_false]
  replace hr:=Aa hr;clear hR;rcases h with h|h;·have q1:ZH (st<0)=true:=Ak h;clear h;exact FD136
  ·have q1:ZH (st<0)=false:=Aq oM;have q2:ZH (100000<st)=true:=Ak h;clear h;exact FD136
 have q1:ZH (st<0)=false:=Aq oM;have q2:ZH (100000<st)=false:=Aq oM;rw [Ak (oM:st >= 0),Ak h2,a_Bool_true_and,a_Bool_true_and] at hR;clear h1 h2;have hu:un = -1\/(un != -1)=true/\(un==-1)=false:=by rw [bne_iff_ne,Bq];omega
 have hwi:(wi<0\/400<wi)\/wi=0\/(1<=wi/\wi<=400):=oM;have Z:∀ b,(ZH (wi >= 0)&&ZH (wi<=if kd=1 then 400 else 0))=b->(un = -1\/(ZH (un<=st)=false/\ZH (100000<un)=false))->R=b:=fun b hb h=>by
  rw [<- hR,hb];rcases h with h|⟨h1,h2⟩;·rw [h];rfl
  ·rw [Df] at h1 h2;rw [Ak (oM:un > st),Ak (oM:un<=100000),Ik,Bool.or_true,a_Bool_true_and]
 have Y:(un==-1)=false->(ZH (un<=st)=true\/ZH (100000<un)=true)->R=false:=fun h1 h2=>by
  rw [<- hR,h1,Jm];rcases h2 with h|h <;> rw [Bl] at h;·rw [Aq (oM:¬ un > st)];rfl
  ·rw [Aq (oM:¬ un<=100000),Bool.and_false];rfl
 clear hR;have W0:wi<0->(ZH (wi >= 0)&&ZH (wi<=if kd=1 then 400 else 0))=false:=fun h=>by rw [Aq oM];rfl
 have W1:400<wi->(ZH (wi >= 0)&&ZH (wi<=if kd=1 then 400 else 0))=false:=fun h=>by rw [Aq (by split <;> omega:¬ (wi<=if kd=1 then 400 else 0)),Bool.and_false]
 have W2:wi=0->(ZH (wi >= 0)&&ZH (wi<=if kd=1 then 400 else 0))=true:=fun h=>by rw [h,Ak oM,Ak (by split <;> omega)];rfl
 have W3:1<=wi->wi<=400->(ZH (wi >= 0)&&ZH (wi<=if kd=1 then 400 else 0))=(kd==1):=fun h h'=>by
  rw [Ak oM,a_Bool_true_and];by_cases e:kd=1;·rw [Ap e,e,Ak h'];rfl
  ·rw [Af e,Aq oM,Bq.2 e]
 replace Z:=Aa Z;replace Y:=Aa Y;replace W0:=Aa W0;replace W1:=Aa W1;replace W2:=Aa W2;replace W3:=Aa W3;have go1:(un = -1\/((un != -1)=true/\(un==-1)=false)/\(ZH (un<=st)=true\/ZH (un<=st)=false/\(ZH (100000<un)=true\/ZH (100000<un)=false))):=by
  rcases hu with h|h;·exact .inl h
  ·refine .inr ⟨h,?_⟩;cases ZH (un<=st) <;> cases ZH (100000<un) <;> simp
 clear hu;rcases go1 with rfl|⟨⟨u1,u2⟩,u3|⟨u3,u4|u4⟩⟩;rotate_left;·have hr:=Aa (Y.out u2 (.inl u3));clear Z Y W0 W1 W2 W3 hwi;exact FD136
 ·have hr:=Aa (Y.out u2 (.inr u4));clear Z Y W0 W1 W2 W3 hwi;exact FD136
 all_goals
  have Z1:=Aa fun b hb=>Z.out b hb (by first|exact .inl rfl|exact .inr ⟨u3,u4⟩);clear Z Y;rcases hwi with (h|h)|rfl|⟨h,h'⟩;·have hr:=Aa (Z1.out _ (W0.out h));have q5:ZH (0<=wi)=false:=Aq oM;clear Z1 W0 W1 W2 W3 h;go_enter func162,ntmps162;go_wp2;go_ret;exact⟨by rw [hr.out];rfl,hB0.out _⟩
  ·have hr:=Aa (Z1.out _ (W1.out h));have q5:ZH (0<=wi)=true:=Ak oM;have q6:ZH (wi<=400)=false:=Aq oM;clear Z1 W0 W1 W2 W3 h;go_enter func162,ntmps162;go_wp2;go_ret;exact⟨by rw [hr.out];rfl,hB0.out _⟩
  ·have hr:=Aa (Z1.out _ (W2.out rfl));clear Z1 W0 W1 W2 W3;go_enter func162,ntmps162;go_wp2;go_ret;exact⟨by rw [hr.out];rfl,hB0.out _⟩
  ·have hr:=Aa (Z1.out _ (W3.out h h'));have q5:ZH (0<=wi)=true:=Ak oM;have q6:ZH (wi<=400)=true:=Ak oM;have q8:(wi==0)=false:=Bq.2 oM;clear Z1 W0 W1 W2 W3 h h';go_enter func162,ntmps162;go_wp2;go_ret;exact⟨by rw [hr.out];rfl,hB0.out _⟩
theorem Cst (m:bC) (vk:ZC) (w:ZB) (hK:A6 w w m.aA vk) (h:bg m=true) : ZE prog 162 #[.agg (A4 m vk).toArray] w (Ret w (.bool true)):=by have:=Qq m vk w hK;rwa [h] at this
end
section
open Go.Lib Go.Proofs.Tryz Go.RowKit Go.Shelf Go.Sort CH
attribute [local irreducible] wpQuiet
theorem Col (k:Nat):∀ (f:CH.Formula) (vk:ZC) (w:ZB),f.depth<=k->A6 w w f vk->f.count<=100000000->f.depth<=100000000 -> ZE prog 275 #[.agg (An f vk)] w (Ret w (.tuple #[↑f.count,↑f.depth])):=by
 induction k with
 |zero=>intro f vk w hk;exact absurd hk (by rw [Fo];omega)
 |succ k ih =>
  intro f vk w hk hK hc hd;obtain⟨ak,ck,rfl,hc1,hc2,hrow⟩:=hK.form;have hcount:=T7 f;have iK:=Fo f;have hlen:=Li f.kids;obtain⟨R,hR⟩:∃ R,Hid (R=Ret w (.tuple #[↑f.count,↑f.depth])):=⟨_,Aa rfl⟩
  rw [<- hR.out];generalize hKN:f.kids.length=KN at *;dsimp only [An];have hB0:=Aa fun o=>(Ac _ w).alloc nR o;replace hrow:=Aa hrow;replace hKN:=Aa hKN;replace ih:=Aa ih;replace hcount:=Aa hcount;replace iK:=Aa iK;replace hc:=Aa hc;replace hd:=Aa hd;replace hk:=Aa hk;go_enter func275,ntmps275;go_wp2_with fail;have B:=hB0.out;generalize hWd:w.alloc _=W at *;have hBW:Below w w W:=by rw [<- hWd];exact B _
  have K:=Aa (Ct (C:=[↑f.op,↑f.name,↑f.cmp,↑f.n,.slice ak KN ck]) hWd);clear hWd hB0 B;go_loopw [4,5,6] (fun nv dv iv wr=>∃ (j a d:Nat),j<=KN/\iv=↑j/\nv=.int .i64 ((a:Int)+1)/\dv=↑d/\a<=100000000/\d<=100000000/\Hid (a=aI (f.kids.take j))/\Hid (d=aX (f.kids.take j))/\Hid (Below W W wr)) (fun _ _ iv _=>KN - (ZG iv).toNat);case atStart=>exact⟨0,0,0,Bd _,rfl,rfl,rfl,oM,oM,Aa rfl,Aa rfl,Aa (Ac _ _)⟩
  case round =>
   obtain⟨j,a,d,hj,rfl,rfl,rfl,ha1,hd1,ha,hdp,hB⟩:=hrel;have c4:=K.out wr hB.out 4 _ rfl;by_cases hlt:j<KN
   ·obtain⟨x,hx⟩:∃ x,f.kids[j]?=some x:=⟨_,Ad (by rw [hKN.out];omega)⟩
    obtain⟨bb,off,rfl,hblt,hcs⟩:=hrow.out (fun e=>by have:=hKN.out;rw [e] at this;simp at this;omega);obtain⟨vx,x0,x1,x2,x3,x4,hkx⟩:=dh.get _ _ _ _ _ hcs hx;have hBw:Below w w wr:=hBW.trans (hB.out.mono hBW.size);have hcl:=fun o=>hBw.cell (p:=⟨bb,o,none⟩) hblt;have e0:=(hcl _).trans x0;have e1:=(hcl _).trans x1;have e2:=(hcl _).trans x2;have e3:=(hcl _).trans x3;have e4:=(hcl _).trans x4;have hmem:x∈f.kids:=Aw hx;have hdx:=Lv hmem;have hcx:=Rg hmem;have hts:f.kids.take (j+1)=f.kids.take j++[x]:=aK f.kids j x hx;have hcm:aI (f.kids.take (j+1))<=aI f.kids:=by have h2:=Iv (f.kids.take (j+1)) (f.kids.drop (j+1));rw [En] at h2;omega
    have hct:aI (f.kids.take (j+1))=a+x.count:=by rw [hts,Iv,<- ha.out];simp [aI]
    have hdt:aX (f.kids.take (j+1))=max d x.depth:=by rw [hts,Mz,<- hdp.out];simp [aX]
    have IH:=Aa (ih.out x vx wr (by have:=hk.out;have:=iK.out;omega) (A6.mono hBw.size _ _ (A6.below hBw nR _ _ hkx)) (by have:=hc.out;have:=hcount.out;omega) (by have:=hd.out;have:=iK.out;omega));have ba:a+x.count<=100000000:=by have:=hc.out;have:=hcount.out;omega
    have bd:max d x.depth<=100000000:=by have:=hd.out;have:=iK.out;omega
    obtain⟨ax,cx,rfl,_,_,_⟩:=hkx.form;dsimp only [An] at IH;generalize x.kids.length=xn at *;generalize x.count=xc at *;generalize x.depth=xd at *;have z0:(0:Int)<=(j:Int):=oM;have zk:((j:Int)).toNat=j:=oM;have hk':(j:Int)<(KN:Int):=oM;replace hct:=Aa hct.symm;replace hdt:=Aa hdt.symm;clear x0 x1 x2 x3 x4 hcl hcs hkx hmem hts hx hdx hcx hcm ha hdp hBw;go_wp2_with fail;refine IH.out.mono ?_;rintro e w2 ⟨rfl,hb2⟩;have hB2:=Aa (hB.out.trans (hb2.mono hB.out.size));clear IH hb2 e0 e1 e2 e3 e4 c4 hB;go_wp2;go_roundw;case rel=>exact⟨j+1,a+xc,max d xd,oM,by go_num,by go_num,by go_num,ba,bd,hct,hdt,hB2⟩
    case measure=>simp [ZG];omega
   ·obtain rfl:j=KN:=oM;have hda:f.kids.take j=f.kids:=Cc (by rw [hKN.out];exact Bo _);rw [hda] at ha hdp;have r1:((f.count:Nat):Int)=(a:Int)+1:=by have:=hcount.out;have:=ha.out;omega
    have r2:((f.depth:Nat):Int)=(d:Int)+1:=by have:=iK.out;have:=hdp.out;omega
    rw [r1,r2] at hR;clear r1 r2 hda ha hdp;go_wp2;rw [hR.out];exact⟨rfl,hBW.trans (hB.out.mono hBW.size)⟩
theorem Qo (f:CH.Formula) (vk:ZC) (w:ZB) (hK:A6 w w f vk) (hc:f.count<=100000000) (hd:f.depth<=100000000) : ZE prog 224 #[.agg (An f vk)] w (Ret w (.bool (ZH (f.count > 200)||ZH (f.depth > 20)))):=by
 have hB0:=Aa fun o=>(Ac _ w).alloc nR o;have S:=Aa fun (W:ZB) (hb:Below w w W)=>Col f.depth f vk W nR (A6.mono hb.size _ _ (A6.below hb nR _ _ hK)) hc hd;obtain⟨ak,ck,rfl,hc1,hc2,_⟩:=hK.form;clear hK;generalize f.kids.length=KN at *;dsimp only [An] at S ⊢;generalize f.count=cc at *;generalize f.depth=dd at *;have hr:(ZH (cc > 200)||ZH (dd > 20))=(ZH ((200:Int)<(cc:Int))||ZH ((20:Int)<(dd:Int))):=by rw [Ei];simp only [Dq,Bl];omega
 rw [hr];clear hr hc hd;go_enter func224,ntmps224;go_wp2_with fail;refine (S.out _ (hB0.out _)).mono ?_;rintro e w1 ⟨rfl,hb1⟩;have hB1:=(hB0.out _).trans (hb1.mono (hB0.out _).size);clear S hB0;cases d1:ZH ((200:Int)<(cc:Int)) <;> cases d2:ZH ((20:Int)<(dd:Int)) <;>
  (go_wp2
   go_ret
   exact⟨by first|rfl|(rw [d1];rfl)|(rw [d1,d2];rfl),hB1⟩)
theorem Coq (f:CH.Formula) (vk:ZC) (w:ZB) (hK:A6 w w f vk) (hc:f.count<=200) (hd:f.depth<=20) : ZE prog 224 #[.agg (An f vk)] w (Ret w (.bool false)):=by have:=Qo f vk w hK oM oM;rwa [Aq oM,Aq oM] at this
theorem Xe {op cmp n:Int} {name:List UInt8} {k:Nat} (h:op=3):fO op name cmp n k=(ZH ((1:Int)<=cmp)&&(ZH (cmp<=6)&&(((k:Int)==0)&&(CH.isName name&&!CH.isKey name)))):=by unfold fO;rw [Ap h,lN,show (k==0)=((k:Int)==0) from by rw [Ei];simp];generalize CH.isName name=b1;generalize CH.isKey name=b2;cases ZH (1<=cmp) <;> cases ZH (cmp<=6) <;> cases ((k:Int)==0) <;> rfl
theorem I39 {op cmp n:Int} {name:List UInt8} {k:Nat} (h:¬ op=3) (hz:name≠[]\/cmp≠0\/n≠0):fO op name cmp n k=false:=by
 unfold fO;rw [Af h,Ap];simp only [Dq,bne_iff_ne];rcases hz with h|h|h;·exact .inl (.inl h)
 ·exact .inl (.inr h)
 ·exact .inr h
theorem U9 (f:CH.Formula) (ak:Option Addr) (ck:Nat) (w:ZB) (hi:f.name.length<=9223372036854775807) : ZE prog 276 #[.agg (An f (.slice ak f.kids.length ck))] w (Ret w (.bool (fO f.op f.name f.cmp f.n f.kids.length))):=by
 have hB0:=Aa fun o=>(Ac _ w).alloc nR o;have T1:=Aa fun (W:ZB)=>Fw f.name W hi;have T2:=Aa fun (W:ZB)=>Ggy f.name W;dsimp only [An];generalize f.kids.length=KN at *;generalize f.name=nm at *;generalize f.op=op at *;generalize f.cmp=cp at *;generalize f.n=nn at *;clear hi;obtain⟨R,hR⟩:∃ R,fO op nm cp nn KN=R:=⟨_,rfl⟩
 rw [hR];have hz:(¬ nm=[]/\(nm==[])=false/\nm.isEmpty=false/\((⟨nm.toArray⟩:ByteArray)==⟨#[]⟩)=false)\/nm=[]/\((cp==0)=false\/cp=0/\((nn==0)=false\/nn=0)):=by
  by_cases h:nm=[]
  ·refine .inr ⟨h,?_⟩;simp only [Bq,ne_eq];omega
  ·have h1:(nm==[])=false:=Bq.2 h;exact .inl ⟨h,h1,List.isEmpty_eq_false_iff.2 h,(Kk h1).1⟩
 by_cases h3:op=3
 ·rw [Xe h3] at hR;subst h3;rcases hz with⟨z1,z2,z3,z4⟩|⟨rfl,z|⟨rfl,z|rfl⟩⟩;rotate_left
  ·have hr:R=false:=by rw [<- hR,show CH.isName []=false from rfl];simp
   replace hr:=Aa hr;replace T1:=Aa T1.out;rw [show CH.isName []=false from rfl] at T1;clear hR T2;cases d1:ZH ((1:Int)<=cp);·go_enter func276,ntmps276;exact FD45
   cases d2:ZH (cp<=6);·go_enter func276,ntmps276;exact FD45
   cases d3:((KN:Int)==0)
   ·go_enter func276,ntmps276;exact FD45
   go_enter func276,ntmps276;go_wp2_with fail;refine (T1.out _).mono ?_;rintro e w1 ⟨rfl,hb1⟩;have hB1:=(hB0.out _).trans (hb1.mono (hB0.out _).size);clear T1 hB0;go_wp2;go_ret;exact⟨by rw [hr.out];rfl,hB1⟩
  ·exact FD31
  ·exact FD31
  generalize CH.isName nm=b1 at *;generalize CH.isKey nm=b2 at *;cases d1:ZH ((1:Int)<=cp);·rw [d1] at hR;exact FD31
  cases d2:ZH (cp<=6);·rw [d1,d2] at hR;exact FD31
  cases d3:((KN:Int)==0)
  ·rw [d1,d2,d3] at hR;exact FD31
  rw [d1,d2,d3] at hR;replace hR:=Aa hR;go_enter func276,ntmps276;go_wp2_with fail;have B:=hB0.out;generalize hWd:w.alloc _=W at *;have hBW:Below w w W:=by rw [<- hWd];exact B _
  have K:=Aa (Ct (C:=[.int .i64 3,↑nm,↑cp,↑nn,.slice ak KN ck]) hWd);clear hWd hB0 B;refine (T1.out _).mono ?_;rintro e w1 ⟨rfl,hb1⟩;have c1:=K.out w1 hb1 1 _ rfl;have hB1:=hBW.trans (hb1.mono hBW.size);clear T1;cases b1;·go_wp2;go_ret;exact⟨by rw [<- hR.out];rfl,hB1⟩
  go_wp2_with fail;refine (T2.out _).mono ?_;rintro e w2 ⟨rfl,hb2⟩;have hB2:=hB1.trans (hb2.mono hB1.size);clear T2;cases b2 <;>
   (go_wp2
    go_ret
    exact⟨by rw [<- hR.out];rfl,hB2⟩)
 ·clear T1 T2;have hop:op=1\/op=2\/op=4\/op=5\/op=6\/((op==1)=false/\(op==2)=false/\(op==3)=false)/\(op==4)=false/\(op==5)=false/\(op==6)=false:=by simp only [Bq,ne_eq];omega
  have hfalse:=@I39 op cp nn nm KN h3;rw [hR] at hfalse;rcases hz with⟨z1,z2,z3,z4⟩|⟨rfl,z|⟨rfl,z|rfl⟩⟩;·have hr:=Aa (hfalse (.inl z1));exact FD35
  ·have hr:=Aa (hfalse (.inr (.inl (Bq.1 z))));exact FD35
  ·have hr:=Aa (hfalse (.inr (.inr (Bq.1 z))));exact FD35
  ·clear hfalse;unfold fO at hR;rw [Af h3,Af sM] at hR;have hn:KN=0\/KN=1\/((((KN:Int)==0)=false/\(KN==0)=false)/\(((KN:Int)==1)=false/\(KN==1)=false)/\ZH ((2:Int)<=(KN:Int))=true/\ZH (2<=KN)=true):=by simp only [Bq,ne_eq,Bl];omega
   have hop2:((op=1\/op=2)/\R=(KN==0))\/(op=4/\R=(KN==1))\/((op=5\/op=6)/\R=ZH (2<=KN))\/(((op==1)=false/\(op==2)=false/\(op==3)=false)/\(op==4)=false/\(op==5)=false/\(op==6)=false)/\R=false:=by
    rcases hop with rfl|rfl|rfl|rfl|rfl|⟨⟨k1,k2,k3⟩,k4,k5,k6⟩;·exact .inl ⟨.inl rfl,hR.symm⟩
    ·exact .inl ⟨.inr rfl,hR.symm⟩
    ·exact .inr (.inl ⟨rfl,hR.symm⟩)
    ·exact .inr (.inr (.inl ⟨.inl rfl,hR.symm⟩))
    ·exact .inr (.inr (.inl ⟨.inr rfl,hR.symm⟩))
    ·refine .inr (.inr (.inr ⟨⟨⟨k1,k2,k3⟩,k4,k5,k6⟩,?_⟩));rw [<- hR,Af (by rw [Jy];exact⟨Bq.1 k1,Bq.1 k2⟩),Af (Bq.1 k4),k5,k6];rfl
   clear hR hop;rcases hop2 with⟨rfl|rfl,hr⟩|⟨rfl,hr⟩|⟨rfl|rfl,hr⟩|⟨⟨⟨k1,k2,k3⟩,k4,k5,k6⟩,hr⟩ <;> rcases hn with rfl|rfl|⟨⟨n0,n1⟩,⟨n2,n3⟩,n4,n5⟩;all_goals
    first
    |rw [n1] at hr
    |rw [n3] at hr
    |rw [n5] at hr
    |skip
    replace hr:=Aa hr;go_enter func276,ntmps276;go_wp2;go_ret;exact⟨by rw [hr.out];rfl,hB0.out _⟩
theorem Did:∀ {l:List CH.Formula},(∀ x∈l,x.ok=true)->eG l=true
 |[],_=>rfl
 |f::l,h=>by
  show (f.ok&&eG l)=true
  rw [h f sM,Did fun x hx=>h x (Gj _ hx)]
  rfl
theorem Sw (k:Nat):∀ (f:CH.Formula) (vk:ZC) (w:ZB),f.depth<=k->A6 w w f vk->C5 f -> ZE prog 225 #[.agg (An f vk)] w (Ret w (.bool f.ok)):=by
 induction k with
 |zero=>intro f vk w hk;exact absurd hk (by rw [Fo];omega)
 |succ k ih =>
  intro f vk w hk hK hS;obtain⟨ak,ck,rfl,hc1,hc2,hrow⟩:=hK.form;have iK:=Fo f;obtain⟨R,hR⟩:∃ R,f.ok=R:=⟨_,rfl⟩
  have hok:=Heo f;rw [hR] at hok ⊢;have F:=fun (W:ZB)=>U9 f ak ck W (by have:=hS.name;omega);have hq:f.op=3->fO f.op f.name f.cmp f.n f.kids.length=true->CH.isKey f.name=false:=fun e h=>by rw [Xe e] at h;simp only [Ar,Fg] at h;exact h.2.2.2.2
  generalize fO f.op f.name f.cmp f.n f.kids.length=bn at *;have hcase:bn=false\/(bn=true/\((f.op==3)=true/\(ZH (f.n<0)=true\/ZH (f.n<0)=false/\ZH (1000000<f.n)=true)))\/(bn=true/\R=eG f.kids)/\((f.op==3)=false\/(f.op==3)=true/\ZH (f.n<0)=false/\ZH (1000000<f.n)=false):=by
   cases bn with
   |false=>exact .inl rfl
   |true =>
    cases h3:(f.op==3) with
    |false =>rw [h3] at hok;exact .inr (.inr ⟨⟨rfl,by simpa using hok⟩,.inl rfl⟩)
    |true =>
     rw [h3,hq (eq_of_beq h3) rfl,show ZH (f.n > 1000000)=ZH (1000000<f.n) from rfl] at hok;cases d1:ZH (f.n<0) with
     |true=>exact .inr (.inl ⟨rfl,rfl,.inl rfl⟩)
     |false =>
      cases d2:ZH (1000000<f.n) with
      |true=>exact .inr (.inl ⟨rfl,rfl,.inr ⟨rfl,rfl⟩⟩)
      |false =>rw [d1,d2] at hok;exact .inr (.inr ⟨⟨rfl,by simpa using hok⟩,.inr ⟨rfl,rfl,rfl⟩⟩)
  have hbad:(bn=false\/(bn=true/\((f.op==3)=true/\(ZH (f.n<0)=true\/ZH (f.n<0)=false/\ZH (1000000<f.n)=true))))->R=false:=fun h=>by
   rw [hok];rcases h with h|⟨h,h3,h4|⟨h5,h4⟩⟩;·rw [h];rfl
   ·rw [h,h3,h4];rfl
   ·rw [h,h3,h5,show ZH (f.n > 1000000)=ZH (1000000<f.n) from rfl,h4];rfl
  clear hok hq;generalize hKN:f.kids.length=KN at *;dsimp only [An] at F ⊢;have hB0:=Aa fun o=>(Ac _ w).alloc nR o;replace hrow:=Aa hrow;replace hKN:=Aa hKN;replace ih:=Aa ih;replace iK:=Aa iK;replace hk:=Aa hk;replace F:=Aa F;clear hK;rcases hcase with h|h|⟨⟨h,hall⟩,hcase⟩;·have hr:=Aa (hbad (.inl h));subst h;clear hbad;go_enter func225,ntmps225;go_wp2_with fail;refine (F.out _).mono ?_;rintro e w1 ⟨rfl,hb1⟩;go_wp2;go_ret;exact⟨by rw [hr.out];rfl,(hB0.out _).trans (hb1.mono (hB0.out _).size)⟩
  ·have hr:=Aa (hbad (.inr h));obtain⟨h,q3,q4⟩:=h;subst h;clear hbad;rcases q4 with q4|⟨q4,q5⟩ <;>
    (go_enter func225,ntmps225
     go_wp2_with fail
     have B:=hB0.out
     generalize hWd:w.alloc _=W at *
     have hBW:Below w w W:=by rw [<- hWd];exact B _
     have K:=Aa (Ct (C:=[↑f.op,↑f.name,↑f.cmp,↑f.n,.slice ak KN ck]) hWd)
     clear hWd hB0 B
     refine (F.out _).mono ?_
     rintro e w1 ⟨rfl,hb1⟩
     have c0:=K.out w1 hb1 0 _ rfl
     have c3:=K.out w1 hb1 3 _ rfl
     go_wp2
     go_ret
     exact⟨by rw [hr.out];rfl,hBW.trans (hb1.mono hBW.size)⟩)
  ·subst h;have HF:=Aa fun (x:CH.Formula) (hx:x∈f.kids) (h:x.ok=false)=>(by rw [hall,<- Bool.not_eq_true];intro e;rw [Ra e hx] at h;exact Bool.noConfusion h:R=false)
   have HE:=Aa fun (h:∀ j x,j<KN->f.kids[j]?=some x->x.ok=true)=>(by rw [hall];exact Did fun x hx=>(Dy.1 hx).elim fun k hk=>h k x (by have:=(lS hk);have:=hKN.out;omega) hk:R=true)
   clear hbad hall;have hSk:=Aa hS.kids;clear hS;rcases hcase with q3|⟨q3,q4,q5⟩;all_goals
    go_enter func225,ntmps225;go_wp2_with fail;have B:=hB0.out;generalize hWd:w.alloc _=W at *;have hBW:Below w w W:=by rw [<- hWd];exact B _
    have K:=Aa (Ct (C:=[↑f.op,↑f.name,↑f.cmp,↑f.n,.slice ak KN ck]) hWd);clear hWd hB0 B;refine (F.out _).mono ?_;rintro e w1 ⟨rfl,hb1⟩;have c0:=K.out w1 hb1 0 _ rfl;have c3:=K.out w1 hb1 3 _ rfl;have hb1:=Aa hb1;go_wp2_with fail;go_loopw [3] (fun iv wr=>∃ j:Nat,j<=KN/\iv=↑j/\Hid (∀ i x,i<j->f.kids[i]?=some x->x.ok=true)/\Hid (Below W W wr)) (fun iv _=>KN - (ZG iv).toNat);case atStart=>exact⟨0,Bd _,rfl,Aa fun i x h=>absurd h (Nat.not_lt_zero _),hb1⟩
    case round =>
     obtain⟨j,hj,rfl,hT,hB⟩:=hrel;have c4:=K.out wr hB.out 4 _ rfl;by_cases hlt:j<KN
     ·obtain⟨x,hx⟩:∃ x,f.kids[j]?=some x:=⟨_,Ad (by rw [hKN.out];omega)⟩
      obtain⟨bb,off,rfl,hblt,hcs⟩:=hrow.out (fun e=>by have:=hKN.out;rw [e] at this;simp at this;omega);obtain⟨vx,x0,x1,x2,x3,x4,hkx⟩:=dh.get _ _ _ _ _ hcs hx;have hBw:Below w w wr:=hBW.trans (hB.out.mono hBW.size);have hcl:=fun o=>hBw.cell (p:=⟨bb,o,none⟩) hblt;have e0:=(hcl _).trans x0;have e1:=(hcl _).trans x1;have e2:=(hcl _).trans x2;have e3:=(hcl _).trans x3;have e4:=(hcl _).trans x4;have hmem:x∈f.kids:=Aw hx;have hdx:=Lv hmem;have IH:=ih.out x vx wr (by have:=hk.out;have:=iK.out;omega) (A6.mono hBw.size _ _ (A6.below hBw nR _ _ hkx)) (hSk.out.mem hmem);obtain⟨ax,cx,rfl,_,_,_⟩:=hkx.form;dsimp only [An] at IH;generalize x.kids.length=xn at *;have z0:(0:Int)<=(j:Int):=oM;have zk:((j:Int)).toNat=j:=oM;have hk':(j:Int)<(KN:Int):=oM;have HFx:=Aa (HF.out x hmem);have Hx:=Aa hx;clear x0 x1 x2 x3 x4 hcl hcs hkx hmem hx hdx hBw;cases hb:x.ok with
      |false =>rw [hb] at IH;replace IH:=Aa IH;have hr:=Aa (HFx.out hb);go_wp2_with fail;refine IH.out.mono ?_;rintro e w2 ⟨rfl,hb2⟩;have hB2:=hB.out.trans (hb2.mono hB.out.size);clear IH hb2 e0 e1 e2 e3 e4 c4 hB;go_wp2;go_ret;exact⟨by rw [hr.out];rfl,hBW.trans (hB2.mono hBW.size)⟩
      |true =>
       rw [hb] at IH;replace IH:=Aa IH;have hT1:Hid (∀ i y,i<j+1->f.kids[i]?=some y->y.ok=true):=Aa fun i y hi hy=>by
        by_cases e:i=j;·subst e;cases Hx.out.symm.trans hy;exact hb
        ·exact hT.out i y oM hy
       go_wp2_with fail;refine IH.out.mono ?_;rintro e w2 ⟨rfl,hb2⟩;have hB2:=Aa (hB.out.trans (hb2.mono hB.out.size));clear IH hb2 e0 e1 e2 e3 e4 c4 hB;go_wp2;go_roundw;case rel=>exact⟨j+1,oM,by go_num,hT1,hB2⟩
       case measure=>simp [ZG];omega
     ·obtain rfl:j=KN:=oM;have hr:=Aa (HE.out hT.out);go_wp2;go_ret;exact⟨by rw [hr.out];rfl,hBW.trans (hB.out.mono hBW.size)⟩
theorem Wq (k:Nat) (f:CH.Formula) (vk:ZC) (w:ZB) (hk:f.depth<=k) (hK:A6 w w f vk) (hS:C5 f) (h:f.ok=true) : ZE prog 225 #[.agg (An f vk)] w (Ret w (.bool true)):=by have:=Sw k f vk w hk hK hS;rwa [h] at this
end
section
open Go.Lib Go.Proofs.Tryz Go.RowKit Go.Shelf Go.Sort CH
attribute [local irreducible] wpQuiet
theorem Ww {P:Program} {md:Region.Mode} {ops:Array Oper} {Q:Exit->Act->ZB->Prop} {S S':ZB->Prop} (hS:∀ w,S' w->S w) :
  ∀ (fuel:Nat) (listed:Array Bool) (a:Act) (w:ZB),wpAnyH P md ops Q S' fuel listed a w->wpAnyH P md ops Q S fuel listed a w
 |0,_,_,_,h=>h
 |fuel+1,_,_,_,h=>⟨h.1,fun i hi=>wpOp_mono (fun a' w' h'=>⟨hS _ h'.1,Ww hS fuel _ a' w' h'.2⟩) (h.2 i hi)⟩
def Isi:List (List UInt8):=[[],[61],[33,61],[60],[60,61],[62],[62,61]]
def Pin (w:ZB) (e:Ending) (w':ZB):Prop:=Below w.heap.size w w'/\∃ g,e=.returned (.slice (some ⟨g,0,none⟩) 7 7)/\w.heap.size<=g/\∀ k l,Isi[k]?=some l->w'.cell? ⟨g,k,none⟩=some (.string ⟨l.toArray⟩)
theorem Git (w:ZB):ZE prog 277 #[] w (Pin w):=by
 have hB0:=fun o=>(Ac _ w).alloc nR o;go_enter func277,ntmps277;go_wp2;go_ret;refine⟨hB0 _,_,rfl,Bo _,fun k l hk=>?_⟩;rw [Ci _ _ _ _ rfl];match k,hk with
 |0,hk|1,hk|2,hk|3,hk|4,hk|5,hk|6,hk=>cases hk;rfl
theorem Pdg (c:Int) (h1:1<=c) (h6:c<=6):Isi[c.toNat]?=some (gq c)/\(gq c).length<=2:=by rcases (oM:c=1\/c=2\/c=3\/c=4\/c=5\/c=6) with rfl|rfl|rfl|rfl|rfl|rfl <;> exact⟨rfl,dC⟩
theorem Ggu (f:CH.Formula) (ak:Option Addr) (nk ck:Nat) (w:ZB) (h3:f.op=3) (hc1:1<=f.cmp) (hc6:f.cmp<=6) (hn0:0<=f.n) (hn1:f.n<=1000000) (hname:f.name.length<=20000) : ZE prog 226 #[.agg (An f (.slice ak nk ck))] w (Ret w ↑f.text):=by
 have hres:Hid (f.name++[32]++gq f.cmp++[32]++Go.Lib.itoa f.n=f.text):=Aa (by rw [text_eq,Af oM,Af oM,Ap h3]);have hil:=Lib.itoa_length_le f.n oM oM;have D:=Aa fun (W:ZB)=>Fy f.n W hn0 oM;have hB0:=Aa fun o=>(Ac _ w).alloc nR o;obtain⟨hca,hcl⟩:=Pdg f.cmp hc1 hc6;have C:=Aa fun (W:ZB)=>Git W;generalize f.text=R at *;dsimp only [An];rw [h3];clear h3;obtain⟨c,hc⟩:∃ c:Nat,f.cmp=c:=⟨f.cmp.toNat,oM⟩
 have hc7:c<7:=oM;generalize gq f.cmp=cw at *;rw [hc] at *;rw [Int.toNat_natCast] at hca;generalize ZK f.n=nt at *;generalize f.name=nm at *;generalize f.n=n at *;have z0:(0:Int)<=(c:Int):=oM;have zk:((c:Int)).toNat=c:=oM;have z7:(c:Int)<7:=oM;have hq1:¬ 9223372036854775807<nm.length+1:=oM;have hq2:¬ 9223372036854775807<nm.length+1+cw.length:=oM;have hq3:¬ 9223372036854775807<nm.length+1+cw.length+1:=oM;have hq4:¬ 9223372036854775807<nm.length+1+cw.length+1+nt.length:=oM;replace hca:=Aa hca;clear hc hc1 hc6 hc7 hn0 hn1 hname hil hcl;go_enter func226,ntmps226;go_wp2_with fail;have B:=hB0.out;generalize hWd:w.alloc _=W at *;have hBW:Below w w W:=by rw [<- hWd];exact B _
 have K:=Aa (Ct (C:=[.int .i64 3,↑nm,↑c,↑n,.slice ak nk ck]) hWd);clear hWd hB0 B;have hD:Below W W W.drew:=(Ac _ W).drew;refine F8 (S:=fun W'=>Below W W W') kR hD (fun hHeld=>?_);refine tk 0 (v:=?_) rfl rF hHeld ?_ ?_;rotate_left;·(intro w hSw;go_simp;try with_reducible rfl)
 (try simp only [ZF,pD,pE,pF,pA,pB,pC]);refine tk 1 (v:=?_) rfl rF hHeld ?_ ?_;rotate_left;·(intro w hSw;have q:=K.out w hSw 1 _ rfl;go_simp;try with_reducible rfl)
 (try simp only [ZF,pD,pE,pF,pA,pB,pC]);refine tk 2 (v:=?_) rfl rF hHeld ?_ ?_;rotate_left;·(intro w hSw;go_simp;try with_reducible rfl)
 (try simp only [ZF,pD,pE,pF,pA,pB,pC]);refine tk 4 (v:=?_) rfl rF hHeld ?_ ?_;rotate_left;·(intro w hSw;go_simp;try with_reducible rfl)
 (try simp only [ZF,pD,pE,pF,pA,pB,pC]);refine tk 5 (v:=?_) rfl rF hHeld ?_ ?_;rotate_left;·(intro w hSw;have q:=K.out w hSw 2 _ rfl;go_simp;try with_reducible rfl)
 (try simp only [ZF,pD,pE,pF,pA,pB,pC]);refine tk 10 (v:=?_) rfl rF hHeld ?_ ?_;rotate_left;·(intro w hSw;go_simp;try with_reducible rfl)
 (try simp only [ZF,pD,pE,pF,pA,pB,pC]);refine tk 11 (v:=?_) rfl rF hHeld ?_ ?_;rotate_left;·(intro w hSw;have q:=K.out w hSw 3 _ rfl;go_simp;try with_reducible rfl)
 (try simp only [ZF,pD,pE,pF,pA,pB,pC]);refine rk 3 rfl (fun K hK=>?_);go_simp;refine (C.out _).mono ?_;rintro e w2 ⟨hb2,g,rfl,hg,hcell⟩;have hE:Below W W w2:=hD.trans (hb2.mono hD.size);have hgc:=hcell c cw hca.out;go_wp2_with fail;refine hK.out _ _ hE (fun _=>?_);clear hK hHeld hcell;refine Ww (S':=fun W'=>Below W W W'/\W'.cell? ⟨g,c,none⟩=some ↑cw) (fun _ h=>h.1) _ _ _ _ ?_;have hHeld:Below W W w2/\w2.cell? ⟨g,c,none⟩=some ↑cw:=⟨hE,hgc⟩
 (try simp only [ZF,pD,pE,pF,pA,pB,pC]);refine tk 6 (v:=?_) rfl rF hHeld ?_ ?_;rotate_left;·(intro w hSw;go_simp;try with_reducible rfl)
 (try simp only [ZF,pD,pE,pF,pA,pB,pC]);refine tk 7 (v:=?_) rfl rF hHeld ?_ ?_;rotate_left;·(intro w hSw;have q:=hSw.2;go_simp;try with_reducible rfl)
 (try simp only [ZF,pD,pE,pF,pA,pB,pC]);refine tk 8 (v:=?_) rfl rF hHeld ?_ ?_;rotate_left;·(intro w hSw;go_simp;try with_reducible rfl)
 (try simp only [ZF,pD,pE,pF,pA,pB,pC]);refine tk 9 (v:=?_) rfl rF hHeld ?_ ?_;rotate_left;·(intro w hSw;go_simp;try with_reducible rfl)
 (try simp only [ZF,pD,pE,pF,pA,pB,pC]);refine rk 12 rfl (fun K hK=>?_);go_simp;refine (D.out _).mono ?_;rintro e w3 ⟨rfl,hb3⟩;have hF:Below W W w3:=hE.trans (hb3.mono hE.size);have hgl:g<w2.heap.size:=by
  by_cases h:g<w2.heap.size;·exact h
  ·rw [World.cell?,Ib (by show _<=g;omega)] at hgc;cases hgc
 have hgd:=(hb3.cell (p:=⟨g,c,none⟩) hgl).trans hgc;go_wp2_with fail;refine hK.out _ _ ⟨hF,hgd⟩ (fun _=>?_);clear hK hHeld;have hHeld:Below W W w3/\w3.cell? ⟨g,c,none⟩=some ↑cw:=⟨hF,hgd⟩
 (try simp only [ZF,pD,pE,pF,pA,pB,pC]);refine tk 13 (v:=?_) rfl rF hHeld ?_ ?_;rotate_left;·(intro w hSw;go_simp;try with_reducible rfl)
 (try simp only [ZF,pD,pE,pF,pA,pB,pC]);refine tk 14 (v:=?_) rfl rF hHeld ?_ ?_;rotate_left;·(intro w hSw;go_simp;try with_reducible rfl)
 (try simp only [ZF,pD,pE,pF,pA,pB,pC]);refine Eb kR ?_ _;have hfin:(⟨nm.toArray⟩:ByteArray)++⟨#[32]⟩++⟨cw.toArray⟩++⟨#[32]⟩++⟨nt.toArray⟩=⟨R.toArray⟩:=by rw [show (⟨#[32]⟩:ByteArray)=⟨([32]:List UInt8).toArray⟩ from rfl,bytes_append,bytes_append,bytes_append,bytes_append,hres.out]
 go_wp2;go_ret;exact⟨by first|rfl|rw [hfin];rfl,hBW.trans (hF.mono hBW.size)⟩
end
section
open Go.Lib Go.Proofs.Tryz Go.RowKit Go.Shelf Go.Sort CH
attribute [local irreducible] wpQuiet
def uf (op:Int):List UInt8:=if op=5 then ([32,97,110,100,32]:List UInt8) else ([32,111,114,32]:List UInt8)
def nZ (op:Int) (kts:List (List UInt8)):List UInt8:=if op=4 then (match kts with|[]=>[]|x::_=>([110,111,116,32]:List UInt8)++x) else CH.join (uf op) kts
def Blt (op:Int) (j:Nat) (t:List UInt8):List UInt8:=if (op==4)=true then ([110,111,116,32]:List UInt8)++t else if 0<j then (if (op==5)=true then ([32,97,110,100,32]:List UInt8)++t else ([32,111,114,32]:List UInt8)++t) else t
theorem Kb8 (op:Int) (kts:List (List UInt8)) (t:List UInt8) (h:op=4->kts=[]):nZ op (kts++[t])=nZ op kts++Blt op kts.length t:=by
 unfold nZ Blt uf;by_cases h4:op=4;·subst h4;rw [h rfl];rfl
 ·have b4:(op==4)=false:=by simpa using h4
  rw [b4];simp only [Af h4,G9,Kr];rw [Nf];cases kts with
  |nil=>simp [CH.join]
  |cons x l =>
   by_cases h5:op=5;·subst h5;simp
   ·have b5:(op==5)=false:=by simpa using h5
    rw [b5];simp [h5]
theorem Mac (op:Int) (l r:List (List UInt8)) (h:op=4->(l++r).length<=1):(nZ op l).length<=(nZ op (l++r)).length:=by
 unfold nZ;by_cases h4:op=4
 ·rw [Ap h4,Ap h4];cases l with
  |nil=>exact Bd _
  |cons x l=>exact Bo _
 ·rw [Af h4,Af h4];exact Pi _ _ _
theorem Kj8 {f:CH.Formula} (h:f.op=4/\f.kids.length=1\/f.op=5\/f.op=6):f.text=nZ f.op (f.kids.map (A7 f.op)):=by
 rw [text_eq];unfold nZ uf;rcases h with⟨e,e1⟩|e|e
 ·rw [Af oM,Af oM,Af oM,Ap e,Ap e];cases hk:f.kids with
  |nil=>rw [hk] at e1;simp at e1
  |cons x l=>rfl
 ·rw [Af oM,Af oM,Af oM,Af oM,Ap e,Af oM,Ap e]
 ·rw [Af oM,Af oM,Af oM,Af oM,Af oM,Af oM,Af oM]
theorem Age (f:CH.Formula) (ak:Option Addr) (nk ck:Nat) (w:ZB) (h:f.op=1\/f.op=2) : ZE prog 226 #[.agg (An f (.slice ak nk ck))] w (Ret w ↑f.text):=by
 have ht:=text_eq f;have hB0:=Aa fun o=>(Ac _ w).alloc nR o;generalize f.text=R at *;dsimp only [An];rcases h with h|h;·rw [h] at ht ⊢;replace ht:R=([116,114,117,101]:List UInt8):=ht;subst ht;go_enter func226,ntmps226;exact FD108
 ·rw [h] at ht ⊢;replace ht:R=([102,97,108,115,101]:List UInt8):=ht;subst ht;go_enter func226,ntmps226;exact FD108
theorem O8 (f:CH.Formula) (vk:ZC) (w:ZB) (hK:A6 w w f vk) (hop:f.op=4/\f.kids.length=1\/f.op=5\/f.op=6) (hlen:f.text.length<=3000000000) (IH0:∀ x∈f.kids,∀ (vx:ZC) (W:ZB),A6 W W x vx->ZE prog 226 #[.agg (An x vx)] W (Ret W ↑x.text)) (hx0:∀ x∈f.kids,x.text.length<=3000000000) : ZE prog 226 #[.agg (An f vk)] w (Ret w ↑f.text):=by
 have hta:=Kj8 hop;have HL:=Aa fun (j:Nat)=>(show (nZ f.op ((f.kids.take j).map (A7 f.op))).length<=3000000000 from by have h1:=Mac f.op ((f.kids.take j).map (A7 f.op)) ((f.kids.drop j).map (A7 f.op)) (fun h4=>by rw [<- Eh,En,Cm];omega);rw [<- Eh,En,<- hta] at h1;omega)
 obtain⟨R,hR⟩:∃ R,f.text=R:=⟨_,rfl⟩
 rw [hR] at hta ⊢;obtain⟨ak,ck,rfl,hc1,hc2,hrow⟩:=hK.form;generalize hKN:f.kids.length=KN at *;dsimp only [An];have hB0:=Aa fun o=>(Ac _ w).alloc nR o;replace hrow:=Aa hrow;replace hKN:=Aa hKN;replace hta:=Aa hta;replace IH0:=Aa IH0;replace hx0:=Aa hx0;have h1:(f.op==1)=false:=by simp;omega
 have h2:(f.op==2)=false:=by simp;omega
 have h3:(f.op==3)=false:=by simp;omega
 clear hK hR hlen;go_enter func226,ntmps226;go_wp2_with fail;have B:=hB0.out;generalize hWd:w.alloc _=W at *;have hBW:Below w w W:=by rw [<- hWd];exact B _
 have K:=Aa (Ct (C:=[↑f.op,↑f.name,↑f.cmp,↑f.n,.slice ak KN ck]) hWd);clear hWd hB0 B;go_loopw [3,4] (fun sv iv wr=>∃ (j:Nat) (t:List UInt8),j<=KN/\iv=↑j/\sv=↑t/\t.length<=3000000000/\Hid (t=nZ f.op ((f.kids.take j).map (A7 f.op)))/\Hid (Below W W wr)) (fun _ iv _=>KN - (ZG iv).toNat);case atStart=>exact⟨0,[],Bd _,rfl,rfl,sM,Aa (by rw [Ia];unfold nZ;simp [CH.join]),hid (Below.refl _ _)⟩
 case round =>
  obtain⟨j,t,hj,rfl,rfl,htl,ht,hB⟩:=hrel;have c4:=K.out wr hB.out 4 _ rfl;by_cases hlt:j<KN
  ·obtain⟨x,hx⟩:∃ x,f.kids[j]?=some x:=⟨_,Ad (by rw [hKN.out];omega)⟩
   obtain⟨bb,off,rfl,hblt,hcs⟩:=hrow.out (fun e=>by have:=hKN.out;rw [e] at this;simp at this;omega);obtain⟨vx,x0,x1,x2,x3,x4,hkx⟩:=dh.get _ _ _ _ _ hcs hx;have hBw:Below w w wr:=hBW.trans (hB.out.mono hBW.size);have hcl:=fun o=>hBw.cell (p:=⟨bb,o,none⟩) hblt;have e0:=(hcl _).trans x0;have e1:=(hcl _).trans x1;have e2:=(hcl _).trans x2;have e3:=(hcl _).trans x3;have e4:=(hcl _).trans x4;have hmem:x∈f.kids:=Aw hx;have hts:(f.kids.take (j+1)).map (A7 f.op)=(f.kids.take j).map (A7 f.op)++[A7 f.op x]:=by rw [aK f.kids j x hx,Eh];rfl
   have hjl:((f.kids.take j).map (A7 f.op)).length=j:=by rw [Cm,Ec,hKN.out];omega
   have hac:=Kb8 f.op ((f.kids.take j).map (A7 f.op)) (A7 f.op x) (fun h4=>by have:j=0:=oM;rw [this];rfl);rw [<- hts,hjl,<- ht.out] at hac;have hL:=HL.out (j+1);rw [hac] at hL;have IH:=Aa (IH0.out x hmem vx wr (A6.mono hBw.size _ _ (A6.below hBw nR _ _ hkx)));have hxl:=hx0.out x hmem;obtain⟨ax,cx,rfl,_,_,_⟩:=hkx.form;dsimp only [An] at IH;generalize x.kids.length=xn at *;have hkt:A7 f.op x=if x.op=6 then [40]++x.text++[41] else if x.op=5 then (if (f.op != 6)=true then [40]++x.text++[41] else x.text) else x.text:=by
    unfold A7;by_cases h6:x.op=6;·rw [Ap h6,Ap (by simp [h6])]
    ·by_cases h5:x.op=5
     ·rw [Af h6,Ap h5];have e6:(x.op==6)=false:=by simpa using h6
      have e5:(x.op==5)=true:=by simpa using h5
      rw [e6,e5,Jm,a_Bool_true_and]
     ·rw [Af h6,Af h5];have e6:(x.op==6)=false:=by simpa using h6
      have e5:(x.op==5)=false:=by simpa using h5
      rw [e6,e5];rfl
   generalize A7 f.op x=kt at *;generalize x.text=T at *;have z0:(0:Int)<=(j:Int):=oM;have zk:((j:Int)).toNat=j:=oM;have hk':(j:Int)<(KN:Int):=oM;replace hac:=Aa hac.symm;replace hkt:=Aa hkt;replace hL:=Aa hL;clear x1 x2 x3 x4 hcs hkx hmem hx hts hjl ht hcl;go_wp2_with fail;refine IH.out.mono ?_;rintro e w2 ⟨rfl,hb2⟩;have hB2:=hB.out.trans (hb2.mono hB.out.size);have hBw2:=hBw.trans (hb2.mono hBw.size);have e0:=(hBw2.cell (p:=⟨bb,_,none⟩) hblt).trans x0;have c0:=K.out w2 hB2 0 _ rfl;have c4:=K.out w2 hB2 4 _ rfl;replace hB2:=Aa hB2;clear IH hb2 e1 e2 e3 e4 x0 hBw hBw2;generalize x.op=xo at *;go_wp2_with fail;all_goals refine⟨⟨j+1,t++Blt f.op j kt,oM,by go_num,?_,hL.out,hac,hB2⟩,by simp [ZG];omega⟩;have hk:=hkt.out;rw [hk];clear hk hac hL hkt hB2 htl hxl c0 c4 e0;unfold Blt;simp only [*,Np,Kr,G9,Int.reduceEq,bytes_append]
  ·obtain rfl:j=KN:=oM;have htR:t=R:=by rw [ht.out,hta.out,Cc (by rw [hKN.out];exact Bo _)]
   subst htR;clear ht;go_wp2;go_ret;exact⟨rfl,hBW.trans (hB.out.mono hBW.size)⟩
end
section
open Go.Lib Go.Proofs.Tryz Go.RowKit Go.Shelf Go.Sort CH
attribute [local irreducible] wpQuiet
theorem Yz (k:Nat):∀ (f:CH.Formula) (vk:ZC) (w:ZB),f.depth<=k->A6 w w f vk->f.ok=true->C5 f->f.count<=90000 -> ZE prog 226 #[.agg (An f vk)] w (Ret w ↑f.text):=by
 induction k with
 |zero=>intro f vk w hk;exact absurd hk (by rw [Fo];omega)
 |succ k ih =>
  intro f vk w hk hK hok hS hcount;have ng:=N3 hok;have hd:=Fo f;have hcn:=T7 f;have hIH:∀ x∈f.kids,∀ (vx:ZC) (W:ZB),A6 W W x vx->ZE prog 226 #[.agg (An x vx)] W (Ret W ↑x.text):=fun x hx vx W hKx=>ih x vx W (by have:=Lv hx;omega) hKx (Ra ng.2.2 hx) (hS.kids.mem hx) (by have:=Rg hx;omega);have hxl:∀ x∈f.kids,x.text.length<=3000000000:=fun x hx=>by have:=Q2 x (hS.kids.mem hx) (Ra ng.2.2 hx);have:=Rg hx;omega
  have hfl:=Q2 f hS hok;obtain⟨ak,ck,rfl,hc1,hc2,hrow⟩:=hK.form;rcases Dfe hok with h|h|⟨h,h1,h6⟩|⟨h,h1⟩|h|h;·exact Age f ak _ ck w (.inl h)
  ·exact Age f ak _ ck w (.inr h)
  ·have hn:=ng.2.1 h;exact Ggu f ak _ ck w h h1 h6 hn.1 hn.2 hS.name
  ·exact O8 f _ w hK (.inl ⟨h,h1⟩) oM hIH hxl
  ·exact O8 f _ w hK (.inr (.inl h)) oM hIH hxl
  ·exact O8 f _ w hK (.inr (.inr h)) oM hIH hxl
theorem Qm (f:CH.Formula) (vk:ZC) (w:ZB) (t:List UInt8) (hK:A6 w w f vk) (hS:C5 f) (h:bf f=some t) : ZE prog 160 #[.agg (An f vk)] w (Ret w (.tuple #[↑t,.int .i64 0])):=by
 unfold bf at h;split at h;·cases h
 ·rename_i hl;simp only [Dq,Bl,Jy,Nat.not_lt] at hl;split at h
  ·rename_i hok;cases h;have KB:=fun (W:ZB) (hb:Below w w W)=>A6.mono hb.size _ _ (A6.below hb nR _ _ hK);have L:=Aa fun (W:ZB) (hb:Below w w W)=>Coq f vk W (KB W hb) oM oM;have V:=Aa fun (W:ZB) (hb:Below w w W)=>Wq f.depth f vk W nR (KB W hb) hS hok;have T:=Aa fun (W:ZB) (hb:Below w w W)=>Yz f.depth f vk W nR (KB W hb) hok hS oM;have hB0:=Aa fun o=>(Ac _ w).alloc nR o;obtain⟨ak,ck,rfl,_,_,_⟩:=hK.form;clear hK KB hl hok hS;generalize f.kids.length=KN at *;dsimp only [An] at *;generalize f.text=t at *;go_enter func160,ntmps160;go_wp2_with fail;have B:=hB0.out;generalize hWd:w.alloc _=W at *;have hBW:Below w w W:=by rw [<- hWd];exact B _
   have K:=Aa (Ct (C:=[↑f.op,↑f.name,↑f.cmp,↑f.n,.slice ak KN ck]) hWd);clear hWd hB0 B;refine (L.out _ hBW).mono ?_;rintro e w1 ⟨rfl,hb1⟩;have hB1:=hBW.trans (hb1.mono hBW.size);have c0:=K.out w1 hb1 0 _ rfl;have c1:=K.out w1 hb1 1 _ rfl;have c2:=K.out w1 hb1 2 _ rfl;have c3:=K.out w1 hb1 3 _ rfl;have c4:=K.out w1 hb1 4 _ rfl;go_wp2_with fail;refine (V.out _ hB1).mono ?_;rintro e w2 ⟨rfl,hb2⟩;have hB2:=hB1.trans (hb2.mono hB1.size);have hb2:=hb1.trans (hb2.mono hb1.size);clear c0 c1 c2 c3 c4;have c0:=K.out w2 hb2 0 _ rfl;have c1:=K.out w2 hb2 1 _ rfl;have c2:=K.out w2 hb2 2 _ rfl;have c3:=K.out w2 hb2 3 _ rfl;have c4:=K.out w2 hb2 4 _ rfl;go_wp2_with fail;refine (T.out _ hB2).mono ?_;rintro e w3 ⟨rfl,hb3⟩;clear L V T c0 c1 c2 c3 c4;go_wp2;refine Ah (Am rfl _ _ _) rfl ?_;exact⟨rfl,hB2.trans (hb3.mono hB2.size)⟩
  ·cases h
theorem Big (f:CH.Formula) (vk:ZC) (w:ZB) (hK:A6 w w f vk) (hS:C5 f) (hc:f.count<=100000000) (hd:f.depth<=100000000) (h:bf f=none) : ZE prog 160 #[.agg (An f vk)] w (Ret w (.tuple #[.string ⟨#[]⟩,.int .i64 1])):=by
 have KB:=fun (W:ZB) (hb:Below w w W)=>A6.mono hb.size _ _ (A6.below hb nR _ _ hK);have L:=fun (W:ZB) (hb:Below w w W)=>Qo f vk W (KB W hb) hc hd;have V:=Aa fun (W:ZB) (hb:Below w w W)=>Sw f.depth f vk W nR (KB W hb) hS;have hB0:=Aa fun o=>(Ac _ w).alloc nR o;obtain⟨ak,ck,rfl,_,_,_⟩:=hK.form;unfold bf at h;generalize (ZH (f.count > 200)||ZH (f.depth > 20))=bl at *;replace L:=Aa L;have hcase:bl=true\/bl=false/\f.ok=false:=by
  cases bl with
  |true=>exact .inl rfl
  |false =>
   rw [Af sM] at h;cases hb:f.ok with
   |false=>exact .inr ⟨rfl,rfl⟩
   |true=>rw [hb,Ap rfl] at h;cases h
 clear hK KB h hS hc hd;generalize f.ok=bo at *;generalize f.kids.length=KN at *;dsimp only [An] at *;rcases hcase with rfl|⟨rfl,rfl⟩;·go_enter func160,ntmps160;go_wp2_with fail;refine (L.out _ (hB0.out _)).mono ?_;rintro e w1 ⟨rfl,hb1⟩;have hB1:=(hB0.out _).trans (hb1.mono (hB0.out _).size);clear L V;exact FD90
 ·go_enter func160,ntmps160;go_wp2_with fail;have B:=hB0.out;generalize hWd:w.alloc _=W at *;have hBW:Below w w W:=by rw [<- hWd];exact B _
  have K:=Aa (Ct (C:=[↑f.op,↑f.name,↑f.cmp,↑f.n,.slice ak KN ck]) hWd);clear hWd hB0 B;refine (L.out _ hBW).mono ?_;rintro e w1 ⟨rfl,hb1⟩;have hB1:=hBW.trans (hb1.mono hBW.size);have c0:=K.out w1 hb1 0 _ rfl;have c1:=K.out w1 hb1 1 _ rfl;have c2:=K.out w1 hb1 2 _ rfl;have c3:=K.out w1 hb1 3 _ rfl;have c4:=K.out w1 hb1 4 _ rfl;go_wp2_with fail;refine (V.out _ hB1).mono ?_;rintro e w2 ⟨rfl,hb2⟩;have hB2:=hB1.trans (hb2.mono hB1.size);clear L V;exact FD89
theorem Y4 (f:CH.Formula) (vk:ZC) (w:ZB) (hK:A6 w w f vk) (hS:C5 f) (hc:f.count<=100000000) (hd:f.depth<=100000000) : ∃ (t:List UInt8) (er:Int),((er != 0)=(bf f).isNone)/\∀ W,Below w w W->ZE prog 160 #[.agg (An f vk)] W (Ret W (.tuple #[↑t,↑er])):=by
 have KB:=fun (W:ZB) (hb:Below w w W)=>A6.mono hb.size _ _ (A6.below hb nR _ _ hK);cases h:bf f with
 |none=>exact⟨[],1,rfl,fun W hb=>Big f vk W (KB W hb) hS hc hd h⟩
 |some t=>exact⟨t,0,rfl,fun W hb=>Qm f vk W t (KB W hb) hS h⟩
end
section
open Go.Lib Go.Proofs.Tryz Go.RowKit Go.Shelf Go.Sort CH
attribute [local irreducible] wpQuiet
theorem I55 {f:CH.Formula} {t:List UInt8} (hS:C5 f) (h:bf f=some t):t.length<=6000000:=by
 unfold bf at h;split at h;·cases h
 ·rename_i hl;simp only [Dq,Bl,Jy,Nat.not_lt] at hl;split at h;·rename_i hok;cases h;have:=Q2 f hS hok;omega
  ·cases h
theorem N5 {n:Int} (h0:0<=n) (h1:n<=144001439):(ZK n).length<=21:=Lib.itoa_length_le n oM oM
theorem Hf1 {m:bC} {t:List UInt8} (h:cu m=some t):∃ ft,bf m.aA=some ft/\aT m=true/\bg m=true /\ t=CH.join [32] ([dN m.kind]++(if m.target != [] then [m.target] else [])++[m.id,([111,102]:List UInt8),m.authority] ++ (if m.aA.op != 1 then [([105,102]:List UInt8),ft] else [])++[([102,114,111,109]:List UInt8),Go.Lib.itoa m.start]++(if m.aF >= 0 then [([117,110,116,105,108]:List UInt8),Go.Lib.itoa m.aF] else []) ++ (if m.dL > 0 then [([119,105,110,100]:List UInt8),Go.Lib.itoa m.dL] else []))++[59]:=by
 unfold cu at h;split at h;·cases h
 ·rename_i ft hft;split at h;·rename_i hnd;rw [Ar] at hnd;cases h;exact⟨ft,hft,hnd.1,hnd.2,rfl⟩
  ·cases h
def N4 (k o:Int) (tg id au ft s1 s2 s3:List UInt8) (u x:Bool):List UInt8 := (if k=1 then ([102,111,114,98,105,100,32]:List UInt8) else if k=2 then ([101,120,101,109,112,116,32]:List UInt8)++tg++[32] else ([98,108,111,99,107,32]:List UInt8)++tg++[32])++id++([32,111,102,32]:List UInt8)++au++(if o != 1 then ([32,105,102,32]:List UInt8)++ft else []) ++ (([32,102,114,111,109,32]:List UInt8)++s1)++(if u then ([32,117,110,116,105,108,32]:List UInt8)++s2 else [])++(if x then ([32,119,105,110,100,32]:List UInt8)++s3 else [])++[59]
theorem Duo (m:bC) (ft:List UInt8) (hn:m.kind=1/\m.target=[]\/(m.kind=2\/m.kind=3)/\m.target≠[]) : CH.join [32] ([dN m.kind]++(if m.target != [] then [m.target] else [])++[m.id,([111,102]:List UInt8),m.authority] ++ (if m.aA.op != 1 then [([105,102]:List UInt8),ft] else [])++[([102,114,111,109]:List UInt8),Go.Lib.itoa m.start]++(if m.aF >= 0 then [([117,110,116,105,108]:List UInt8),Go.Lib.itoa m.aF] else []) ++ (if m.dL > 0 then [([119,105,110,100]:List UInt8),Go.Lib.itoa m.dL] else []))++[59]=N4 m.kind m.aA.op m.target m.id m.authority ft (Go.Lib.itoa m.start) (Go.Lib.itoa m.aF) (Go.Lib.itoa m.dL) (ZH (0<=m.aF)) (ZH (0<m.dL)):=by unfold N4 dN;generalize m.aA.op=o;generalize Go.Lib.itoa m.start=s1;generalize Go.Lib.itoa m.aF=s2;generalize Go.Lib.itoa m.dL=s3;generalize m.id=id;generalize m.authority=au;generalize m.aF=u;generalize m.dL=x;cases ho:(o != 1) <;> by_cases hu:0<=u <;> by_cases hx:0<x;all_goals rcases hn with⟨e1,e2⟩|⟨e1|e1,e2⟩;all_goals simp [e1,e2,hu,hx,CH.join]
theorem Y7 (m:bC) (vk:ZC) (w:ZB) (t:List UInt8) (hK:A6 w w m.aA vk) (hS:C5 m.aA) (h:cu m=some t) : ZE prog 103 #[.agg (A4 m vk).toArray] w (Ret w (.tuple #[↑t,.int .i64 0])):=by
 obtain⟨ft,hft,hn,hd,rfl⟩:=Hf1 h;have hlf:=I55 hS hft;have KB:=fun (W:ZB) (hb:Below w w W)=>A6.mono hb.size _ _ (A6.below hb nR _ _ hK);have T1:=Aa fun (W:ZB) (hb:Below w w W)=>Qm m.aA vk W ft (KB W hb) hS hft;have T2:=Aa fun (W:ZB) (hb:Below w w W)=>Com m vk W (KB W hb) hn;have T3:=Aa fun (W:ZB) (hb:Below w w W)=>Cst m vk W (KB W hb) hd;have hB0:=Aa fun o=>(Ac _ w).alloc nR o;obtain⟨ak,ck,rfl,_,_,_⟩:=hK.form;unfold bg at hd;simp only [Ar,Dq,Dz,Bl] at hd;obtain⟨d1,d2,d3,d4,d5⟩:=hd;have hnm:CH.isName m.id=true/\CH.isName m.authority=true/\(m.kind=1/\m.target=[]\/(m.kind=2\/m.kind=3)/\CH.isName m.target=true):=by
  unfold aT at hn;simp only [kC] at hn;by_cases h1:m.kind=1;·rw [Ap h1] at hn;simp only [Ar,Dz] at hn;exact⟨hn.1.1,hn.1.2,.inl ⟨h1,hn.2⟩⟩
  rw [Af h1] at hn;by_cases h2:m.kind=2;·rw [Ap h2] at hn;simp only [Ar] at hn;exact⟨hn.1.1,hn.1.2,.inr ⟨.inl h2,hn.2.1⟩⟩
  rw [Af h2] at hn;by_cases h3:m.kind=3;·rw [Ap h3] at hn;simp only [Ar] at hn;exact⟨hn.1.1,hn.1.2,.inr ⟨.inr h3,hn.2.1⟩⟩
  rw [Af h3] at hn;cases hn
 obtain⟨n1,n2,n3⟩:=hnm;have l1:=(Br n1).2;have l2:=(Br n2).2;have l3:m.target.length<=24:=by
  rcases n3 with⟨_,e⟩|⟨_,e⟩;·rw [e];simp
  ·exact (Br e).2
 have n3':m.kind=1/\m.target=[]\/(m.kind=2\/m.kind=3)/\m.target≠[]:=n3.imp id fun h=>⟨h.1,fun e=>by have:=(Br h.2).1;rw [e] at this;simp at this⟩
 rw [Duo m ft n3'];obtain⟨R,hR⟩:∃ R,Hid (N4 m.kind m.aA.op m.target m.id m.authority ft (Go.Lib.itoa m.start) (Go.Lib.itoa m.aF) (Go.Lib.itoa m.dL) (ZH (0<=m.aF)) (ZH (0<m.dL))=R):=⟨_,Aa rfl⟩
 rw [hR.out];have D1:=Aa fun (W:ZB)=>Fy m.start W oM oM;have i1:=N5 (n:=m.start) oM oM;have D3:=Aa fun (W:ZB)=>Fy m.dL W oM (by split at d5 <;> omega);have i3:=N5 (n:=m.dL) oM (by split at d5 <;> omega);have D2:=Aa fun (h:0<=m.aF) (W:ZB)=>Fy m.aF W h oM;have i2:0<=m.aF->(ZK m.aF).length<=21:=fun h=>N5 h oM;have hk:m.kind=1\/m.kind=2\/m.kind=3:=oM;clear h hK KB hS hft d1 d2 d3 d4 d5 n1 n2 n3 n3' hn;generalize m.aA.kids.length=KN at *;dsimp only [A4,An] at *;generalize ZK m.start=s1 at *;generalize ZK m.aF=s2 at *;generalize ZK m.dL=s3 at *;have kr:∀ k:Int,m.kind=k->ZE prog 103 #[.agg #[↑m.id,↑m.authority,↑k,↑m.target,↑m.aA.op,↑m.aA.name,↑m.aA.cmp,↑m.aA.n,.slice ak KN ck,↑m.start,↑m.aF,↑m.dL]] w (Ret w (.tuple #[↑R,.int .i64 0]))->ZE prog 103 #[.agg #[↑m.id,↑m.authority,↑m.kind,↑m.target,↑m.aA.op,↑m.aA.name,↑m.aA.cmp,↑m.aA.n,.slice ak KN ck,↑m.start,↑m.aF,↑m.dL]] w (Ret w (.tuple #[↑R,.int .i64 0])):=fun k e h=>by rw [e];exact h
 rcases hk with hk|hk|hk;all_goals
  refine kr _ hk ?_;rw [hk] at hR T2 T3;clear kr hk;go_enter func103,ntmps103;go_wp2_with fail;have B:=hB0.out;generalize hWd:w.alloc _=W at *;have hBW:Below w w W:=by rw [<- hWd];exact B _
  have K:=Aa (Ct (C:=_) hWd);clear hWd hB0 B;refine (T1.out _ hBW).mono ?_;rintro e w1 ⟨rfl,hb1⟩;have hB1:=hBW.trans (hb1.mono hBW.size);have c0:=K.out w1 hb1 0 _ rfl;have c1:=K.out w1 hb1 1 _ rfl;have c2:=K.out w1 hb1 2 _ rfl;have c3:=K.out w1 hb1 3 _ rfl;have c4:=K.out w1 hb1 4 _ rfl;have c5:=K.out w1 hb1 5 _ rfl;have c6:=K.out w1 hb1 6 _ rfl;have c7:=K.out w1 hb1 7 _ rfl;have c8:=K.out w1 hb1 8 _ rfl;have c9:=K.out w1 hb1 9 _ rfl;have c10:=K.out w1 hb1 10 _ rfl;have c11:=K.out w1 hb1 11 _ rfl;go_wp2_with fail;refine (T2.out _ hB1).mono ?_;rintro e w2 ⟨rfl,hb2⟩;have hB2:=hB1.trans (hb2.mono hB1.size);replace hb2:=hb1.trans (hb2.mono hb1.size);clear c0 c1 c2 c3 c4 c5 c6 c7 c8 c9 c10 c11;have c0:=K.out w2 hb2 0 _ rfl;have c1:=K.out w2 hb2 1 _ rfl;have c2:=K.out w2 hb2 2 _ rfl;have c3:=K.out w2 hb2 3 _ rfl;have c4:=K.out w2 hb2 4 _ rfl;have c5:=K.out w2 hb2 5 _ rfl;have c6:=K.out w2 hb2 6 _ rfl;have c7:=K.out w2 hb2 7 _ rfl;have c8:=K.out w2 hb2 8 _ rfl;have c9:=K.out w2 hb2 9 _ rfl;have c10:=K.out w2 hb2 10 _ rfl;have c11:=K.out w2 hb2 11 _ rfl;go_wp2_with fail;refine (T3.out _ hB2).mono ?_;rintro e w3 ⟨rfl,hb3⟩;have hB3:=hB2.trans (hb3.mono hB2.size);replace hb3:=hb2.trans (hb3.mono hb2.size);clear c0 c1 c2 c3 c4 c5 c6 c7 c8 c9 c10 c11;have c0:=K.out w3 hb3 0 _ rfl;have c1:=K.out w3 hb3 1 _ rfl;have c2:=K.out w3 hb3 2 _ rfl;have c3:=K.out w3 hb3 3 _ rfl;have c4:=K.out w3 hb3 4 _ rfl;have c9:=K.out w3 hb3 9 _ rfl;clear T1 T2 T3;go_wp2_with fail;all_goals
   refine (D1.out _).mono ?_;rintro e w4 ⟨rfl,hb4⟩;have hB4:=hB3.trans (hb4.mono hB3.size);replace hb4:=hb3.trans (hb4.mono hb3.size);have c10:=K.out w4 hb4 10 _ rfl;have c11:=K.out w4 hb4 11 _ rfl;by_cases hu:0<=m.aF <;> by_cases hx:0<m.dL;·have ku:=Aa (Ak hu);have kx:=Aa (Ak hx);go_wp2_with fail;refine (D2.out hu _).mono ?_;rintro e w5 ⟨rfl,hb5⟩;have hB5:=hB4.trans (hb5.mono hB4.size);have hb5:=hb4.trans (hb5.mono hb4.size);clear c10 c11;have c10:=K.out w5 hb5 10 _ rfl;have c11:=K.out w5 hb5 11 _ rfl;go_wp2_with fail;refine (D3.out _).mono ?_;rintro e w6 ⟨rfl,hb6⟩;have hB6:=hB5.trans (hb6.mono hB5.size);clear c10 c11;go_wp2;refine Ah (Am rfl _ _ _) rfl ?_;refine⟨congrArg (fun b=>Ending.returned (.tuple #[.string b,.int .i64 0])) ?_,hB6⟩;rw [<- hR.out];clear hR D1 D2 D3 K hB4 hB3 hB2 hB1 hb4 hb3 hb2 hb1;simp only [N4, *,ku.out,kx.out,decide_true,decide_false,Np,Kr,G9,Int.reduceEq,bytes_append,D9,Dp,Gy]
   ·have ku:=Aa (Ak hu);have kx:=Aa (Aq hx);go_wp2_with fail;refine (D2.out hu _).mono ?_;rintro e w5 ⟨rfl,hb5⟩;have hB5:=hB4.trans (hb5.mono hB4.size);have hb5:=hb4.trans (hb5.mono hb4.size);clear c10 c11;have c10:=K.out w5 hb5 10 _ rfl;have c11:=K.out w5 hb5 11 _ rfl;go_wp2;refine Ah (Am rfl _ _ _) rfl ?_;refine⟨congrArg (fun b=>Ending.returned (.tuple #[.string b,.int .i64 0])) ?_,hB5⟩;rw [<- hR.out];clear hR D1 D2 D3 K hB4 hB3 hB2 hB1 hb4 hb3 hb2 hb1;simp only [N4, *,ku.out,kx.out,decide_true,decide_false,Np,Kr,G9,Int.reduceEq,bytes_append,D9,Dp,Gy]
   ·have ku:=Aa (Aq hu);have kx:=Aa (Ak hx);go_wp2_with fail;refine (D3.out _).mono ?_;rintro e w6 ⟨rfl,hb6⟩;have hB6:=hB4.trans (hb6.mono hB4.size);clear c10 c11;go_wp2;refine Ah (Am rfl _ _ _) rfl ?_;refine⟨congrArg (fun b=>Ending.returned (.tuple #[.string b,.int .i64 0])) ?_,hB6⟩;rw [<- hR.out];clear hR D1 D2 D3 K hB4 hB3 hB2 hB1 hb4 hb3 hb2 hb1;simp only [N4, *,ku.out,kx.out,decide_true,decide_false,Np,Kr,G9,Int.reduceEq,bytes_append,D9,Dp,Gy]
   ·have ku:=Aa (Aq hu);have kx:=Aa (Aq hx);go_wp2;refine Ah (Am rfl _ _ _) rfl ?_;refine⟨congrArg (fun b=>Ending.returned (.tuple #[.string b,.int .i64 0])) ?_,hB4⟩;rw [<- hR.out];clear hR D1 D2 D3 K hB4 hB3 hB2 hB1 hb4 hb3 hb2 hb1;simp only [N4, *,ku.out,kx.out,decide_true,decide_false,Np,Kr,G9,Int.reduceEq,bytes_append,D9,Dp,Gy]
theorem Y8 (m:bC) (vk:ZC) (w:ZB) (hK:A6 w w m.aA vk) (hS:C5 m.aA) (hc:m.aA.count<=100000000) (hd:m.aA.depth<=100000000) (hi1:m.id.length<=9223372036854775807) (hi2:m.authority.length<=9223372036854775807) (hi3:m.target.length<=9223372036854775807) (h:cu m=none) : ZE prog 103 #[.agg (A4 m vk).toArray] w (Ret w (.tuple #[.string ⟨#[]⟩,.int .i64 1])):=by
 have KB:=fun (W:ZB) (hb:Below w w W)=>A6.mono hb.size _ _ (A6.below hb nR _ _ hK);obtain⟨ft,er,her,T1⟩:=Y4 m.aA vk w hK hS hc hd;have T2:=Aa fun (W:ZB) (hb:Below w w W)=>Qn m vk W (KB W hb) hi1 hi2 hi3;have T3:=Aa fun (W:ZB) (hb:Below w w W)=>Qq m vk W (KB W hb);replace T1:=Aa T1;have hB0:=Aa fun o=>(Ac _ w).alloc nR o;obtain⟨ak,ck,rfl,_,_,_⟩:=hK.form;have hcase:aT m=false\/aT m=true/\(bg m=false\/bg m=true/\(er != 0)=true):=by
  unfold cu at h;cases hn:aT m with
  |false=>exact .inl rfl
  |true =>
   cases hd:bg m with
   |false=>exact .inr ⟨rfl,.inl rfl⟩
   |true =>
    refine .inr ⟨rfl,.inr ⟨rfl,?_⟩⟩;rw [her];cases hf:bf m.aA with
    |none=>rfl
    |some t =>rw [hf] at h;simp [hn,hd] at h
 clear her hK KB hS hc hd hi1 hi2 hi3 h;generalize aT m=bn at *;generalize bg m=bd at *;generalize m.aA.kids.length=KN at *;dsimp only [A4,An] at *;rcases hcase with rfl|⟨rfl,rfl|⟨rfl,q⟩⟩;all_goals
  go_enter func103,ntmps103;go_wp2_with fail;have B:=hB0.out;generalize hWd:w.alloc _=W at *;have hBW:Below w w W:=by rw [<- hWd];exact B _
  have K:=Aa (Ct (C:=_) hWd);clear hWd hB0 B;refine (T1.out _ hBW).mono ?_;rintro e w1 ⟨rfl,hb1⟩;have hB1:=hBW.trans (hb1.mono hBW.size);have c0:=K.out w1 hb1 0 _ rfl;have c1:=K.out w1 hb1 1 _ rfl;have c2:=K.out w1 hb1 2 _ rfl;have c3:=K.out w1 hb1 3 _ rfl;have c4:=K.out w1 hb1 4 _ rfl;have c5:=K.out w1 hb1 5 _ rfl;have c6:=K.out w1 hb1 6 _ rfl;have c7:=K.out w1 hb1 7 _ rfl;have c8:=K.out w1 hb1 8 _ rfl;have c9:=K.out w1 hb1 9 _ rfl;have c10:=K.out w1 hb1 10 _ rfl;have c11:=K.out w1 hb1 11 _ rfl;go_wp2_with fail;refine (T2.out _ hB1).mono ?_;rintro e w2 ⟨rfl,hb2⟩;have hB2:=hB1.trans (hb2.mono hB1.size);replace hb2:=hb1.trans (hb2.mono hb1.size);clear c0 c1 c2 c3 c4 c5 c6 c7 c8 c9 c10 c11
 ·exact FD89
 all_goals have c0:=K.out w2 hb2 0 _ rfl;have c1:=K.out w2 hb2 1 _ rfl;have c2:=K.out w2 hb2 2 _ rfl;have c3:=K.out w2 hb2 3 _ rfl;have c4:=K.out w2 hb2 4 _ rfl;have c5:=K.out w2 hb2 5 _ rfl;have c6:=K.out w2 hb2 6 _ rfl;have c7:=K.out w2 hb2 7 _ rfl;have c8:=K.out w2 hb2 8 _ rfl;have c9:=K.out w2 hb2 9 _ rfl;have c10:=K.out w2 hb2 10 _ rfl;have c11:=K.out w2 hb2 11 _ rfl;go_wp2_with fail;refine (T3.out _ hB2).mono ?_;rintro e w3 ⟨rfl,hb3⟩;have hB3:=hB2.trans (hb3.mono hB2.size);clear c0 c1 c2 c3 c4 c5 c6 c7 c8 c9 c10 c11;go_wp2;refine Ah (Am rfl _ _ _) rfl ?_;exact⟨rfl,hB3⟩
end
section
open Go.Lib Go.Proofs.Tryz Go.RowKit Go.Shelf Go.Sort CH
attribute [local irreducible] wpQuiet
def chH (k:Int) (id ps:List UInt8):List UInt8 :=
 if k=1 then ([97,100,100,32]:List UInt8)++id++[32]++ps else if k=2 then ([114,101,109,111,118,101,32]:List UInt8)++id++[32]++ps else if k=3 then ([99,111,114,114,101,99,116,32]:List UInt8)++id else ([118,111,105,100,32]:List UInt8)++id
def Lb (n:CH.Name):List UInt8:=[32,34]++aV n++[34]
def chT (k:Int) (id ps:List UInt8) (ns:List CH.Name):List UInt8:=chH k id ps++(ns.map Lb).flatten
theorem Rx (k:Int) (id ps:List UInt8) (ns:List CH.Name) (n:CH.Name):chT k id ps (ns++[n])=chT k id ps ns++Lb n:=by unfold chT;simp
theorem Eta (A:List (List UInt8)) (hA:A≠[]) (ns:List CH.Name):CH.join [32] (A++ns.map fun n=>[34]++aV n++[34])=CH.join [32] A++(ns.map Lb).flatten:=by
 induction ns generalizing A with
 |nil=>simp
 |cons n l ih =>have h:=ih (A++[[34]++aV n++[34]]) sM;rw [D9,List.singleton_append] at h;rw [Eu,h,Nf,Af hA];simp [Lb]
theorem Vh {c:CH.Change} {t:List UInt8} (h:bM c=some t):cZ c=true/\(1<=c.kind/\c.kind<=4)/\t=chT c.kind c.id (ZK c.pos) c.entry.names++[59]:=by
 unfold bM at h;split at h
 ·rename_i hok;have hk:1<=c.kind/\c.kind<=4:=by
   unfold cZ at hok;dsimp only at hok;split at hok;·cases hok
   ·rename_i h1;simp only [Dq,Fg,Bl,Jy,Jb,Int.not_lt] at h1;omega
  cases h;refine⟨hok,hk,?_⟩;rw [Eta _ sM];unfold chT chH CH.kindWord;rcases (oM:c.kind=1\/c.kind=2\/c.kind=3\/c.kind=4) with e|e|e|e;all_goals simp [e,CH.join]
 ·cases h
theorem Bk2 (c:CH.Change) (v:ZC) (w:ZB) (t:List UInt8) (hv:Dr w w v c.entry.names) (hS:∀ n∈c.entry.names,Gk n.words) (h:bM c=some t) : ZE prog 102 #[.agg (A9 c v).toArray] w (Ret w (.tuple #[↑t,.int .i64 0])):=by
 obtain⟨hok,hk,rfl⟩:=Vh h;have hS6:∀ n∈c.entry.names,∀ l∈n.words,l.length<=1000000:=fun n hn l hl=>Ag ((hS n hn).2 l hl) oM;have F:=Aa fun (W:ZB) (hb:Below w w W)=>Bin c v W (Ge.grow hv hb) hS6 hok;have hf:CH.isName c.id=true/\((c.kind=1\/c.kind=2)->0<=c.pos/\c.pos<=144001439)/\c.entry.names.length<=8/\∀ n∈c.entry.names,bK n=true:=by
  unfold cZ at hok;dsimp only at hok;split at hok;·cases hok
  ·rename_i h1;simp only [Dq,Fg,Bl,Jy,Jb,Int.not_lt] at h1;refine⟨jJ h1.1.1,?_⟩;unfold dJ aW at hok;rcases (oM:c.kind=1\/c.kind=2\/c.kind=3\/c.kind=4) with e|e|e|e;all_goals simp [e] at hok ⊢;first |(obtain⟨⟨a1,a2,a3,a4,a5⟩,a6⟩:=hok;exact⟨oM,a4,a5⟩) |(obtain⟨⟨a1,a2,a3,a4,a5⟩,a6⟩:=hok;exact⟨a4,a5⟩) |(obtain⟨⟨a1,a2⟩,a6⟩:=hok;rw [a2];simp;omega) |(obtain⟨⟨a1,a2⟩,a6⟩:=hok;rw [a2];simp)
 obtain⟨hn,hp,hN8,hno⟩:=hf;have hil:=(Br hn).2;have C:=Aa fun (k:Nat) (x:CH.Name) (hk:c.entry.names[k]?=some x)=>fun (vw:ZC) (W:ZB) (hvw:Strs W W vw x.words)=>Ws x vw W hvw (hS6 x (Aw hk)) (hno x (Aw hk)) (Ag (Pu x (hno x (Aw hk)) (hS x (Aw hk))) oM);have HQ:=Aa fun (k:Nat) (x:CH.Name) (hk:c.entry.names[k]?=some x)=>Pu x (hno x (Aw hk)) (hS x (Aw hk));have D:=Aa fun (h:0<=c.pos/\c.pos<=144001439) (W:ZB)=>Fy c.pos W h.1 oM;have hpl:(0<=c.pos/\c.pos<=144001439)->(ZK c.pos).length<=21:=fun h=>N5 h.1 h.2;have hB0:=Aa fun o=>(Ac _ w).alloc nR o;obtain⟨a,cap,rfl,hl,hcap,hne⟩:=hv;replace hne:=Aa hne;obtain⟨R,hR⟩:∃ R,Hid (chT c.kind c.id (ZK c.pos) c.entry.names++[59]=R):=⟨_,Aa rfl⟩
 rw [hR.out];dsimp only [A9] at *;generalize ZK c.pos=ps at *;generalize c.pos=ps0 at *;generalize c.entry.names=ns at *;generalize c.entry.id=eid at *;generalize c.id=id at *;generalize c.kind=kd at *;obtain⟨N,hN⟩:∃ N,ns.length=N:=⟨_,rfl⟩
 rw [hN] at hl hN8 F ⊢;replace hN:=Aa hN;clear hS hS6 hno h hok hn;rcases (oM:kd=1\/kd=2\/kd=3\/kd=4) with rfl|rfl|rfl|rfl
 ·have hpp:=hp oM;have hpl:=hpl hpp;have hq1:¬ 9223372036854775807<4+List.length id:=oM;have hq2:¬ 9223372036854775807<4+List.length id+1:=oM;have hq3:¬ 9223372036854775807<4+List.length id+1+ps.length:=oM;have D:=Aa (D.out hpp);clear hpp hp;go_enter func102,ntmps102;go_wp2_with fail;have B:=hB0.out;generalize hWd:w.alloc _=W at *;have hBW:Below w w W:=by rw [<- hWd];exact B _
  have K:=Aa (Ct (C:=[.int .i64 1,↑id,↑eid,.slice a N cap,↑ps0]) hWd);clear hWd hB0 B;refine (F.out _ hBW).mono ?_;rintro e w1 ⟨rfl,hb1⟩;have hB1:=hBW.trans (hb1.mono hBW.size);have c0:=K.out w1 hb1 0 _ rfl;have c1:=K.out w1 hb1 1 _ rfl;have c4:=K.out w1 hb1 4 _ rfl;clear F;have g1:=@Ae _ _ _ c1;have g4:=@Ae _ _ _ c4;go_wp2_with fail;refine Ba kR kR ?_;repeat (quiet_step ((with_reducible exact Bg (D.out _))))
  refine Cj ?_;intro wq hbq;replace hbq:=As hbq;clear g1 g4;have hBw:=Aa (hB1.trans (hbq.mono hB1.size));have hbw:=Aa (hb1.trans (hbq.mono hb1.size));clear D c0 c1 c4 hbq;have c0:=K.out _ hbw.out 0 _ rfl;have c1:=K.out _ hbw.out 1 _ rfl;go_wp2_with fail;go_loopw [4,5] (fun sv iv wr=>∃ (k:Nat) (t:List UInt8),k<=N/\iv=↑k/\sv=↑t/\t.length<=100+k*61000/\Hid (t=chT 1 id ps (ns.take k))/\Hid (Below w w wr)/\Hid (Below W W wr)) (fun _ iv _=>N - (ZG iv).toNat);case atStart=>exact⟨0,([97,100,100,32]:List UInt8)++id++[32]++ps,Bd _,rfl,by simp only [bytes_append],by simp only [Aj,Az,Bj];omega,Aa (by simp [chT,chH]),hBw,hbw⟩
  case round =>
   obtain⟨k,t,hk,rfl,rfl,htl,ht,hBr,hb⟩:=hrel;have c3:=K.out wr hb.out 3 _ rfl;by_cases hlt:k<N
   ·obtain⟨b,off,rfl,hbl,hcells⟩:=hne.out (by intro h;have:=hN.out;simp [h] at this;omega);obtain⟨n,hn'⟩:∃ n,ns[k]?=some n:=⟨_,Ad (by rw [hN.out];exact hlt)⟩
    obtain⟨vw,d1,d2,d3⟩:=hcells k n hn';have e1:=(hBr.out.cell (p:=⟨b,off+k*2,none⟩) hbl).trans d1;have e2:=(hBr.out.cell (p:=⟨b,off+k*2+1,none⟩) hbl).trans d2;have F:=Aa (C.out k n hn' vw wr ((d3.below hBr.out nR).mono hBr.out.size));have hs:chT 1 id ps (ns.take (k+1))=t++Lb n:=by rw [D6,hn',F7,Rx,ht.out]
    exact FD7
   ·exact FD15
 ·have hpp:=hp oM;have hpl:=hpl hpp;have hq1:¬ 9223372036854775807<7+List.length id:=oM;have hq2:¬ 9223372036854775807<7+List.length id+1:=oM;have hq3:¬ 9223372036854775807<7+List.length id+1+ps.length:=oM;have D:=Aa (D.out hpp);clear hpp hp;go_enter func102,ntmps102;go_wp2_with fail;have B:=hB0.out;generalize hWd:w.alloc _=W at *;have hBW:Below w w W:=by rw [<- hWd];exact B _
  have K:=Aa (Ct (C:=[.int .i64 2,↑id,↑eid,.slice a N cap,↑ps0]) hWd);clear hWd hB0 B;refine (F.out _ hBW).mono ?_;rintro e w1 ⟨rfl,hb1⟩;have hB1:=hBW.trans (hb1.mono hBW.size);have c0:=K.out w1 hb1 0 _ rfl;have c1:=K.out w1 hb1 1 _ rfl;have c4:=K.out w1 hb1 4 _ rfl;clear F;have g1:=@Ae _ _ _ c1;have g4:=@Ae _ _ _ c4;go_wp2_with fail;refine Ba kR kR ?_;repeat (quiet_step ((with_reducible exact Bg (D.out _))))
  refine Cj ?_;intro wq hbq;replace hbq:=As hbq;clear g1 g4;have hBw:=Aa (hB1.trans (hbq.mono hB1.size));have hbw:=Aa (hb1.trans (hbq.mono hb1.size));clear D c0 c1 c4 hbq;have c0:=K.out _ hbw.out 0 _ rfl;have c1:=K.out _ hbw.out 1 _ rfl;go_wp2_with fail;go_loopw [4,5] (fun sv iv wr=>∃ (k:Nat) (t:List UInt8),k<=N/\iv=↑k/\sv=↑t/\t.length<=100+k*61000/\Hid (t=chT 2 id ps (ns.take k))/\Hid (Below w w wr)/\Hid (Below W W wr)) (fun _ iv _=>N - (ZG iv).toNat);case atStart=>exact⟨0,([114,101,109,111,118,101,32]:List UInt8)++id++[32]++ps,Bd _,rfl,by simp only [bytes_append],by simp only [Aj,Az,Bj];omega,Aa (by simp [chT,chH]),hBw,hbw⟩
  case round =>
   obtain⟨k,t,hk,rfl,rfl,htl,ht,hBr,hb⟩:=hrel;have c3:=K.out wr hb.out 3 _ rfl;by_cases hlt:k<N
   ·obtain⟨b,off,rfl,hbl,hcells⟩:=hne.out (by intro h;have:=hN.out;simp [h] at this;omega);obtain⟨n,hn'⟩:∃ n,ns[k]?=some n:=⟨_,Ad (by rw [hN.out];exact hlt)⟩
    obtain⟨vw,d1,d2,d3⟩:=hcells k n hn';have e1:=(hBr.out.cell (p:=⟨b,off+k*2,none⟩) hbl).trans d1;have e2:=(hBr.out.cell (p:=⟨b,off+k*2+1,none⟩) hbl).trans d2;have F:=Aa (C.out k n hn' vw wr ((d3.below hBr.out nR).mono hBr.out.size));have hs:chT 2 id ps (ns.take (k+1))=t++Lb n:=by rw [D6,hn',F7,Rx,ht.out]
    exact FD7
   ·exact FD15
 ·clear hp hpl D;go_enter func102,ntmps102;go_wp2_with fail;have B:=hB0.out;generalize hWd:w.alloc _=W at *;have hBW:Below w w W:=by rw [<- hWd];exact B _
  have K:=Aa (Ct (C:=[.int .i64 3,↑id,↑eid,.slice a N cap,↑ps0]) hWd);clear hWd hB0 B;refine (F.out _ hBW).mono ?_;rintro e w1 ⟨rfl,hb1⟩;have hB1:=hBW.trans (hb1.mono hBW.size);have c0:=K.out w1 hb1 0 _ rfl;have c1:=K.out w1 hb1 1 _ rfl;have c4:=K.out w1 hb1 4 _ rfl;clear F;have hBw:=Aa hB1;have hbw:=Aa hb1;go_wp2_with fail;go_loopw [4,5] (fun sv iv wr=>∃ (k:Nat) (t:List UInt8),k<=N/\iv=↑k/\sv=↑t/\t.length<=100+k*61000/\Hid (t=chT 3 id ps (ns.take k))/\Hid (Below w w wr)/\Hid (Below W W wr)) (fun _ iv _=>N - (ZG iv).toNat);case atStart=>exact⟨0,([99,111,114,114,101,99,116,32]:List UInt8)++id,Bd _,rfl,by simp only [bytes_append],by simp only [Aj,Az,Bj];omega,Aa (by simp [chT,chH]),hBw,hbw⟩
  case round =>
   obtain⟨k,t,hk,rfl,rfl,htl,ht,hBr,hb⟩:=hrel;have c3:=K.out wr hb.out 3 _ rfl;by_cases hlt:k<N
   ·obtain⟨b,off,rfl,hbl,hcells⟩:=hne.out (by intro h;have:=hN.out;simp [h] at this;omega);obtain⟨n,hn'⟩:∃ n,ns[k]?=some n:=⟨_,Ad (by rw [hN.out];exact hlt)⟩
    obtain⟨vw,d1,d2,d3⟩:=hcells k n hn';have e1:=(hBr.out.cell (p:=⟨b,off+k*2,none⟩) hbl).trans d1;have e2:=(hBr.out.cell (p:=⟨b,off+k*2+1,none⟩) hbl).trans d2;have F:=Aa (C.out k n hn' vw wr ((d3.below hBr.out nR).mono hBr.out.size));have hs:chT 3 id ps (ns.take (k+1))=t++Lb n:=by rw [D6,hn',F7,Rx,ht.out]
    exact FD7
   ·exact FD15
 ·clear hp hpl D;go_enter func102,ntmps102;go_wp2_with fail;have B:=hB0.out;generalize hWd:w.alloc _=W at *;have hBW:Below w w W:=by rw [<- hWd];exact B _
  have K:=Aa (Ct (C:=[.int .i64 4,↑id,↑eid,.slice a N cap,↑ps0]) hWd);clear hWd hB0 B;refine (F.out _ hBW).mono ?_;rintro e w1 ⟨rfl,hb1⟩;have hB1:=hBW.trans (hb1.mono hBW.size);have c0:=K.out w1 hb1 0 _ rfl;have c1:=K.out w1 hb1 1 _ rfl;have c4:=K.out w1 hb1 4 _ rfl;clear F;have hBw:=Aa hB1;have hbw:=Aa hb1;go_wp2_with fail;go_loopw [4,5] (fun sv iv wr=>∃ (k:Nat) (t:List UInt8),k<=N/\iv=↑k/\sv=↑t/\t.length<=100+k*61000/\Hid (t=chT 4 id ps (ns.take k))/\Hid (Below w w wr)/\Hid (Below W W wr)) (fun _ iv _=>N - (ZG iv).toNat);case atStart=>exact⟨0,([118,111,105,100,32]:List UInt8)++id,Bd _,rfl,by simp only [bytes_append],by simp only [Aj,Az,Bj];omega,Aa (by simp [chT,chH]),hBw,hbw⟩
  case round =>
   obtain⟨k,t,hk,rfl,rfl,htl,ht,hBr,hb⟩:=hrel;have c3:=K.out wr hb.out 3 _ rfl;by_cases hlt:k<N
   ·obtain⟨b,off,rfl,hbl,hcells⟩:=hne.out (by intro h;have:=hN.out;simp [h] at this;omega);obtain⟨n,hn'⟩:∃ n,ns[k]?=some n:=⟨_,Ad (by rw [hN.out];exact hlt)⟩
    obtain⟨vw,d1,d2,d3⟩:=hcells k n hn';have e1:=(hBr.out.cell (p:=⟨b,off+k*2,none⟩) hbl).trans d1;have e2:=(hBr.out.cell (p:=⟨b,off+k*2+1,none⟩) hbl).trans d2;have F:=Aa (C.out k n hn' vw wr ((d3.below hBr.out nR).mono hBr.out.size));have hs:chT 4 id ps (ns.take (k+1))=t++Lb n:=by rw [D6,hn',F7,Rx,ht.out]
    exact FD7
   ·exact FD15
theorem Bla (c:CH.Change) (v:ZC) (w:ZB) (hv:Dr w w v c.entry.names) (hS:∀ n∈c.entry.names,∀ l∈n.words,l.length<=1000000) (hi:c.id.length<=9223372036854775807) (hi2:c.entry.id.length<=9223372036854775807) (h:bM c=none) : ZE prog 102 #[.agg (A9 c v).toArray] w (Ret w (.tuple #[.string ⟨#[]⟩,.int .i64 1])):=by
 have hok:cZ c=false:=by
  unfold bM at h;split at h;·cases h
  ·rename_i e;simpa using e
 have F:=Aa fun (W:ZB) (hb:Below w w W)=>Ys c v W (Ge.grow hv hb) hS hi hi2;rw [hok] at F;have hB0:=Aa fun o=>(Ac _ w).alloc nR o;obtain⟨a,cap,rfl,_,_,_⟩:=hv;clear hS hi hi2 h hok;generalize c.entry.names.length=N at *;dsimp only [A9] at *;go_enter func102,ntmps102;go_wp2_with fail;refine (F.out _ (hB0.out _)).mono ?_;rintro e w1 ⟨rfl,hb1⟩;have hB1:=(hB0.out _).trans (hb1.mono (hB0.out _).size);exact FD90
end
end Go.Proofs.YtpkjhpenpfcpfaaGreatDoor
